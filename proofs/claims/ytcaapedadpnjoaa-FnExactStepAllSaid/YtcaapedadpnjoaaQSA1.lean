/- What the program's functions compute, and plain facts of it (part 1). No condition beyond those that each theorem states. -/
import Derived.Test.YtcaapedadpnjoaaXA
import Derived.ProofKit
import Derived.Test.YtcaapedadpnjoaaMH
import Derived.Deep.MidRow
import Derived.Deep.QuietTactic
import Derived.BigQuiet
import Derived.Great.BuildSlice
set_option linter.unusedVariables false
set_option linter.unusedSimpArgs false
section
namespace Go.Proofs.Ytcaapedadpnjoaa
open Go.Ev
theorem qfu (k : Nat) (a0 a1 a2 : Int) : go (k + 1) laws_toId [(.agg [(.int .i64 (a0)), (.int .i64 (a1)), (.int .i64 (a2))])] =
 some [(.agg [(.int .i64 (a0)), (.int .i64 (a1)), (.int .i64 (a2))])] := by kernel_rfl
def ql8 (x0 : Int) (z1 : Bool) (l2 : List (Int × Int × Int)) (z3 : Bool) (l4 : List (Int × Int × Int)) : St := ⟨fill 23 [(0, (.sl 0 none)), (3, (.sl 1 none)), (4, (.int .i64 (x0)))], [], [(.arr false (z1) (.r3 (l2))), (.arr true (z3) (.r3 (l4)))]⟩
theorem qfv (k : Nat) (az : Bool) (a : List (Int × Int × Int)) : go (k + 1) laws_toIdS [(.arr false (az) (.r3 (a)))] =
 cond (decide ((0 : Int) ≤ nI (List.length a)) && decide (nI (List.length a) ≤ nI (List.length a)) && decide (nI (List.length a) ≤ nI bigLen))
 (lp k laws_toIdS [] [] 3 k (ql8 (0 : Int) az a false (List.replicate (Int.toNat (nI (List.length a))) zz3)))
 (none) := by kernel_rfl
theorem qh4 (k n : Nat) (fu : List (Nat × Nat)) (x0 : Int) (z1 : Bool) (l2 : List (Int × Int × Int)) (z3 : Bool) (l4 : List (Int × Int × Int)) : lp k laws_toIdS [] fu 3 (n + 1) (ql8 x0 z1 l2 z3 l4) =
 cond (decide (x0 < nI (List.length l2)))
 (cond (decide ((0 : Int) ≤ x0) && decide (x0 < nI (List.length l2)))
 ((go k laws_toId [(.agg [(.int .i64 (Prod.fst (List.getD l2 (Int.toNat x0) zz3))), (.int .i64 (Prod.fst (Prod.snd (List.getD l2 (Int.toNat x0) zz3)))), (.int .i64 (Prod.snd (Prod.snd (List.getD l2 (Int.toNat x0) zz3))))])]).bind fun r0 =>
 cond (decide ((0 : Int) ≤ x0) && decide (x0 < nI (List.length l4)))
 (lp k laws_toIdS [] fu 3 n (ql8 (IntKind.wrap .i64 (x0 + (1 : Int))) z1 l2 z3 (List.set l4 (Int.toNat x0) (D.toInt (D.cell 0 (nth r0 0)), D.toInt (D.cell 1 (nth r0 0)), D.toInt (D.cell 2 (nth r0 0))))))
 (none))
 (none))
 (some [(.arr true (z3) (.r3 (l4)))]) := by kernel_rfl
theorem qfx (k : Nat) (a0 : Int) (a1z : Bool) (a1 : List (Int × Int × Int)) : go (k + 1) laws_toMesh [(.agg [(.int .i64 (a0)), (.arr false (a1z) (.r3 (a1)))])] =
 (go k laws_toIdS [(.arr false (a1z) (.r3 (a1)))]).bind fun r0 =>
 some [(.agg [(.int .i64 (a0)), (.arr true (D.nil (nth r0 0)) (.r3 (D.r3 (nth r0 0))))])] := by kernel_rfl
theorem qfp (k : Nat) (az : Bool) (a : List (Int × Int × Int)) (b : Int) : go (k + 1) laws_szIdS [(.arr false (az) (.r3 (a))), (.int .i64 (b))] =
 cond (decide (IntKind.wrap .i64 (b - nI (List.length a)) < (0 : Int)))
 (some [(.int .i64 ((-1 : Int)))])
 (some [(.int .i64 (IntKind.wrap .i64 (b - nI (List.length a))))]) := by kernel_rfl
theorem qfr (k : Nat) (a0 : Int) (a1z : Bool) (a1 : List (Int × Int × Int)) (b : Int) : go (k + 1) laws_szMesh [(.agg [(.int .i64 (a0)), (.arr false (a1z) (.r3 (a1)))]), (.int .i64 (b))] =
 (go k laws_szIdS [(.arr false (a1z) (.r3 (a1))), (.int .i64 (b))]).bind fun r0 =>
 cond (decide (D.toInt (nth r0 0) < (0 : Int)))
 (some [(.int .i64 ((-1 : Int)))])
 (some [(.int .i64 (D.toInt (nth r0 0)))]) := by kernel_rfl
theorem qfe (k : Nat) (a0 a1 a2 b0 b1 b2 : Int) : go (k + 1) laws_eqId [(.agg [(.int .i64 (a0)), (.int .i64 (a1)), (.int .i64 (a2))]), (.agg [(.int .i64 (b0)), (.int .i64 (b1)), (.int .i64 (b2))])] =
 cond (!decide (a0 = b0))
 (some [(.bool (false))])
 (cond (!decide (a1 = b1))
 (some [(.bool (false))])
 (cond (!decide (a2 = b2))
 (some [(.bool (false))])
 (some [(.bool (true))]))) := by kernel_rfl
def qlz (x0 : Int) (z1 : Bool) (l2 : List (Int × Int × Int)) (z3 : Bool) (l4 : List (Int × Int × Int)) : St := ⟨fill 27 [(0, (.sl 0 none)), (1, (.sl 1 none)), (5, (.int .i64 (x0)))], [], [(.arr false (z1) (.r3 (l2))), (.arr false (z3) (.r3 (l4)))]⟩
theorem qff (k : Nat) (az : Bool) (a : List (Int × Int × Int)) (bz : Bool) (b : List (Int × Int × Int)) : go (k + 1) laws_eqIdS [(.arr false (az) (.r3 (a))), (.arr false (bz) (.r3 (b)))] =
 cond (!decide (nI (List.length a) = nI (List.length b)))
 (some [(.bool (false))])
 (lp k laws_eqIdS [] [] 4 k (qlz (0 : Int) az a bz b)) := by kernel_rfl
theorem qhv (k n : Nat) (fu : List (Nat × Nat)) (x0 : Int) (z1 : Bool) (l2 : List (Int × Int × Int)) (z3 : Bool) (l4 : List (Int × Int × Int)) : lp k laws_eqIdS [] fu 4 (n + 1) (qlz x0 z1 l2 z3 l4) =
 cond (decide (x0 < nI (List.length l2)))
 (cond (decide ((0 : Int) ≤ x0) && decide (x0 < nI (List.length l2)))
 (cond (decide ((0 : Int) ≤ x0) && decide (x0 < nI (List.length l4)))
 ((go k laws_eqId [(.agg [(.int .i64 (Prod.fst (List.getD l2 (Int.toNat x0) zz3))), (.int .i64 (Prod.fst (Prod.snd (List.getD l2 (Int.toNat x0) zz3)))), (.int .i64 (Prod.snd (Prod.snd (List.getD l2 (Int.toNat x0) zz3))))]), (.agg [(.int .i64 (Prod.fst (List.getD l4 (Int.toNat x0) zz3))), (.int .i64 (Prod.fst (Prod.snd (List.getD l4 (Int.toNat x0) zz3)))), (.int .i64 (Prod.snd (Prod.snd (List.getD l4 (Int.toNat x0) zz3))))])]).bind fun r0 =>
 cond (!bit (nth r0 0))
 (some [(.bool (false))])
 (lp k laws_eqIdS [] fu 4 n (qlz (IntKind.wrap .i64 (x0 + (1 : Int))) z1 l2 z3 l4)))
 (none))
 (none))
 (some [(.bool (true))]) := by kernel_rfl
theorem qfh (k : Nat) (a0 : Int) (a1z : Bool) (a1 : List (Int × Int × Int)) (b0 : Int) (b1z : Bool) (b1 : List (Int × Int × Int)) : go (k + 1) laws_eqMesh [(.agg [(.int .i64 (a0)), (.arr false (a1z) (.r3 (a1)))]), (.agg [(.int .i64 (b0)), (.arr false (b1z) (.r3 (b1)))])] =
 cond (!decide (a0 = b0))
 (some [(.bool (false))])
 ((go k laws_eqIdS [(.arr false (a1z) (.r3 (a1))), (.arr false (b1z) (.r3 (b1)))]).bind fun r0 =>
 cond (!bit (nth r0 0))
 (some [(.bool (false))])
 (some [(.bool (true))])) := by kernel_rfl
def ql5 (x0 x1 : Int) (z2 : Bool) (l3 : List (Int × Int × Int)) : St := ⟨fill 34 [(0, (.sl 0 none)), (1, (.int .i64 (x0))), (5, (.int .i64 (x1)))], [(.sl 0 none)], [(.arr true (z2) (.r3 (l3)))]⟩
theorem qfn (k : Nat) (az : Bool) (a : List (Int × Int × Int)) (b : Int) : go (k + 1) laws_markIdS [(.arr true (az) (.r3 (a))), (.int .i64 (b))] =
 lp k laws_markIdS [(.arr true (az) (.r3 (a)))] [] 2 k (ql5 b (0 : Int) az a) := by kernel_rfl
theorem qh1 (k n : Nat) (fu : List (Nat × Nat)) (az : Bool) (a : List (Int × Int × Int)) (x0 x1 : Int) (z2 : Bool) (l3 : List (Int × Int × Int)) : lp k laws_markIdS [(.arr true (az) (.r3 (a)))] fu 2 (n + 1) (ql5 x0 x1 z2 l3) =
 cond (decide (x1 < nI (List.length l3)))
 (cond (decide ((0 : Int) ≤ x1) && decide (x1 < nI (List.length l3)))
 (cond (decide ((0 : Int) ≤ x1) && decide (x1 < nI (List.length (List.set l3 (Int.toNat x1) (x0, Prod.fst (Prod.snd (List.getD l3 (Int.toNat x1) zz3)), Prod.snd (Prod.snd (List.getD l3 (Int.toNat x1) zz3)))))))
 (cond (decide ((0 : Int) ≤ x1) && decide (x1 < nI (List.length (List.set (List.set l3 (Int.toNat x1) (x0, Prod.fst (Prod.snd (List.getD l3 (Int.toNat x1) zz3)), Prod.snd (Prod.snd (List.getD l3 (Int.toNat x1) zz3)))) (Int.toNat x1) (Prod.fst (List.getD (List.set l3 (Int.toNat x1) (x0, Prod.fst (Prod.snd (List.getD l3 (Int.toNat x1) zz3)), Prod.snd (Prod.snd (List.getD l3 (Int.toNat x1) zz3)))) (Int.toNat x1) zz3), IntKind.wrap .i64 (x0 + (1 : Int)), Prod.snd (Prod.snd (List.getD (List.set l3 (Int.toNat x1) (x0, Prod.fst (Prod.snd (List.getD l3 (Int.toNat x1) zz3)), Prod.snd (Prod.snd (List.getD l3 (Int.toNat x1) zz3)))) (Int.toNat x1) zz3)))))))
 (lp k laws_markIdS [(.arr true (az) (.r3 (a)))] fu 2 n (ql5 (IntKind.wrap .i64 (IntKind.wrap .i64 (IntKind.wrap .i64 (x0 + (1 : Int)) + (1 : Int)) + (1 : Int))) (IntKind.wrap .i64 (x1 + (1 : Int))) z2 (List.set (List.set (List.set l3 (Int.toNat x1) (x0, Prod.fst (Prod.snd (List.getD l3 (Int.toNat x1) zz3)), Prod.snd (Prod.snd (List.getD l3 (Int.toNat x1) zz3)))) (Int.toNat x1) (Prod.fst (List.getD (List.set l3 (Int.toNat x1) (x0, Prod.fst (Prod.snd (List.getD l3 (Int.toNat x1) zz3)), Prod.snd (Prod.snd (List.getD l3 (Int.toNat x1) zz3)))) (Int.toNat x1) zz3), IntKind.wrap .i64 (x0 + (1 : Int)), Prod.snd (Prod.snd (List.getD (List.set l3 (Int.toNat x1) (x0, Prod.fst (Prod.snd (List.getD l3 (Int.toNat x1) zz3)), Prod.snd (Prod.snd (List.getD l3 (Int.toNat x1) zz3)))) (Int.toNat x1) zz3)))) (Int.toNat x1) (Prod.fst (List.getD (List.set (List.set l3 (Int.toNat x1) (x0, Prod.fst (Prod.snd (List.getD l3 (Int.toNat x1) zz3)), Prod.snd (Prod.snd (List.getD l3 (Int.toNat x1) zz3)))) (Int.toNat x1) (Prod.fst (List.getD (List.set l3 (Int.toNat x1) (x0, Prod.fst (Prod.snd (List.getD l3 (Int.toNat x1) zz3)), Prod.snd (Prod.snd (List.getD l3 (Int.toNat x1) zz3)))) (Int.toNat x1) zz3), IntKind.wrap .i64 (x0 + (1 : Int)), Prod.snd (Prod.snd (List.getD (List.set l3 (Int.toNat x1) (x0, Prod.fst (Prod.snd (List.getD l3 (Int.toNat x1) zz3)), Prod.snd (Prod.snd (List.getD l3 (Int.toNat x1) zz3)))) (Int.toNat x1) zz3)))) (Int.toNat x1) zz3), Prod.fst (Prod.snd (List.getD (List.set (List.set l3 (Int.toNat x1) (x0, Prod.fst (Prod.snd (List.getD l3 (Int.toNat x1) zz3)), Prod.snd (Prod.snd (List.getD l3 (Int.toNat x1) zz3)))) (Int.toNat x1) (Prod.fst (List.getD (List.set l3 (Int.toNat x1) (x0, Prod.fst (Prod.snd (List.getD l3 (Int.toNat x1) zz3)), Prod.snd (Prod.snd (List.getD l3 (Int.toNat x1) zz3)))) (Int.toNat x1) zz3), IntKind.wrap .i64 (x0 + (1 : Int)), Prod.snd (Prod.snd (List.getD (List.set l3 (Int.toNat x1) (x0, Prod.fst (Prod.snd (List.getD l3 (Int.toNat x1) zz3)), Prod.snd (Prod.snd (List.getD l3 (Int.toNat x1) zz3)))) (Int.toNat x1) zz3)))) (Int.toNat x1) zz3)), IntKind.wrap .i64 (IntKind.wrap .i64 (x0 + (1 : Int)) + (1 : Int))))))
 (none))
 (none))
 (none))
 (some [(.int .i64 (x0)), (.arr true (z2) (.r3 (l3)))]) := by kernel_rfl
def ql9 (x0 : Int) (z1 : Bool) (l2 : List Int) (z3 : Bool) (l4 : List Int) : St := ⟨fill 22 [(0, (.sl 0 none)), (3, (.sl 1 none)), (4, (.int .i64 (x0)))], [], [(.arr false (z1) (.ints .i64 (l2))), (.arr true (z3) (.ints .i64 (l4)))]⟩
theorem qfw (k : Nat) (az : Bool) (a : List Int) : go (k + 1) laws_toIntS [(.arr false (az) (.ints .i64 (a)))] =
 cond (decide ((0 : Int) ≤ nI (List.length a)) && decide (nI (List.length a) ≤ nI (List.length a)) && decide (nI (List.length a) ≤ nI bigLen))
 (lp k laws_toIntS [] [] 3 k (ql9 (0 : Int) az a false (List.replicate (Int.toNat (nI (List.length a))) (0 : Int))))
 (none) := by kernel_rfl
theorem qh5 (k n : Nat) (fu : List (Nat × Nat)) (x0 : Int) (z1 : Bool) (l2 : List Int) (z3 : Bool) (l4 : List Int) : lp k laws_toIntS [] fu 3 (n + 1) (ql9 x0 z1 l2 z3 l4) =
 cond (decide (x0 < nI (List.length l2)))
 (cond (decide ((0 : Int) ≤ x0) && decide (x0 < nI (List.length l2)))
 (cond (decide ((0 : Int) ≤ x0) && decide (x0 < nI (List.length l4)))
 (lp k laws_toIntS [] fu 3 n (ql9 (IntKind.wrap .i64 (x0 + (1 : Int))) z1 l2 z3 (List.set l4 (Int.toNat x0) (List.getD l2 (Int.toNat x0) (0 : Int)))))
 (none))
 (none))
 (some [(.arr true (z3) (.ints .i64 (l4)))]) := by kernel_rfl
theorem qfq (k : Nat) (az : Bool) (a : List Int) (b : Int) : go (k + 1) laws_szIntS [(.arr false (az) (.ints .i64 (a))), (.int .i64 (b))] =
 cond (decide (IntKind.wrap .i64 (b - nI (List.length a)) < (0 : Int)))
 (some [(.int .i64 ((-1 : Int)))])
 (some [(.int .i64 (IntKind.wrap .i64 (b - nI (List.length a))))]) := by kernel_rfl
def ql0 (x0 : Int) (z1 : Bool) (l2 : List Int) (z3 : Bool) (l4 : List Int) : St := ⟨fill 26 [(0, (.sl 0 none)), (1, (.sl 1 none)), (5, (.int .i64 (x0)))], [], [(.arr false (z1) (.ints .i64 (l2))), (.arr false (z3) (.ints .i64 (l4)))]⟩
theorem qfg (k : Nat) (az : Bool) (a : List Int) (bz : Bool) (b : List Int) : go (k + 1) laws_eqIntS [(.arr false (az) (.ints .i64 (a))), (.arr false (bz) (.ints .i64 (b)))] =
 cond (!decide (nI (List.length a) = nI (List.length b)))
 (some [(.bool (false))])
 (lp k laws_eqIntS [] [] 4 k (ql0 (0 : Int) az a bz b)) := by kernel_rfl
theorem qhw (k n : Nat) (fu : List (Nat × Nat)) (x0 : Int) (z1 : Bool) (l2 : List Int) (z3 : Bool) (l4 : List Int) : lp k laws_eqIntS [] fu 4 (n + 1) (ql0 x0 z1 l2 z3 l4) =
 cond (decide (x0 < nI (List.length l2)))
 (cond (decide ((0 : Int) ≤ x0) && decide (x0 < nI (List.length l2)))
 (cond (decide ((0 : Int) ≤ x0) && decide (x0 < nI (List.length l4)))
 (cond (!decide (List.getD l2 (Int.toNat x0) (0 : Int) = List.getD l4 (Int.toNat x0) (0 : Int)))
 (some [(.bool (false))])
 (lp k laws_eqIntS [] fu 4 n (ql0 (IntKind.wrap .i64 (x0 + (1 : Int))) z1 l2 z3 l4)))
 (none))
 (none))
 (some [(.bool (true))]) := by kernel_rfl
def ql6 (x0 x1 : Int) (z2 : Bool) (l3 : List Int) : St := ⟨fill 19 [(0, (.sl 0 none)), (1, (.int .i64 (x0))), (5, (.int .i64 (x1)))], [(.sl 0 none)], [(.arr true (z2) (.ints .i64 (l3)))]⟩
theorem qfo (k : Nat) (az : Bool) (a : List Int) (b : Int) : go (k + 1) laws_markIntS [(.arr true (az) (.ints .i64 (a))), (.int .i64 (b))] =
 lp k laws_markIntS [(.arr true (az) (.ints .i64 (a)))] [] 2 k (ql6 b (0 : Int) az a) := by kernel_rfl
theorem qh2 (k n : Nat) (fu : List (Nat × Nat)) (az : Bool) (a : List Int) (x0 x1 : Int) (z2 : Bool) (l3 : List Int) : lp k laws_markIntS [(.arr true (az) (.ints .i64 (a)))] fu 2 (n + 1) (ql6 x0 x1 z2 l3) =
 cond (decide (x1 < nI (List.length l3)))
 (cond (decide ((0 : Int) ≤ x1) && decide (x1 < nI (List.length l3)))
 (lp k laws_markIntS [(.arr true (az) (.ints .i64 (a)))] fu 2 n (ql6 (IntKind.wrap .i64 (x0 + (1 : Int))) (IntKind.wrap .i64 (x1 + (1 : Int))) z2 (List.set l3 (Int.toNat x1) x0)))
 (none))
 (some [(.int .i64 (x0)), (.arr true (z2) (.ints .i64 (l3)))]) := by kernel_rfl
def ql3 (x0 x1 : Int) (z2 : Bool) (l3 : List Int) : St := ⟨fill 21 [(0, (.sl 0 none)), (1, (.int .i64 (x0))), (5, (.int .i64 (x1)))], [], [(.arr false (z2) (.ints .i64 (l3)))]⟩
theorem qfl (k : Nat) (az : Bool) (a : List Int) (b : Int) : go (k + 1) laws_heldIntS [(.arr false (az) (.ints .i64 (a))), (.int .i64 (b))] =
 lp k laws_heldIntS [] [] 2 k (ql3 b (0 : Int) az a) := by kernel_rfl
theorem qhz (k n : Nat) (fu : List (Nat × Nat)) (x0 x1 : Int) (z2 : Bool) (l3 : List Int) : lp k laws_heldIntS [] fu 2 (n + 1) (ql3 x0 x1 z2 l3) =
 cond (decide (x1 < nI (List.length l3)))
 (cond (decide ((0 : Int) ≤ x1) && decide (x1 < nI (List.length l3)))
 (cond (!decide (List.getD l3 (Int.toNat x1) (0 : Int) = x0))
 (some [(.int .i64 ((-1 : Int)))])
 (lp k laws_heldIntS [] fu 2 n (ql3 (IntKind.wrap .i64 (x0 + (1 : Int))) (IntKind.wrap .i64 (x1 + (1 : Int))) z2 l3)))
 (none))
 (some [(.int .i64 (x0))]) := by kernel_rfl

end Go.Proofs.Ytcaapedadpnjoaa
end
section
namespace Go.Proofs.Ytcaapedadpnjoaa
open Go.Ev
theorem qgh (k : Nat) (a b c : Int) : go (k + 1) spec_l01In [(.int .i64 (a)), (.int .i64 (b)), (.int .i64 (c))] =
 cond (decide (b ≤ a))
 (some [(.bool (decide (a ≤ c)))])
 (some [(.bool (false))]) := by kernel_rfl
theorem qfd (k : Nat) (a b c : Int) : go (k + 1) impl_within [(.int .i64 (a)), (.int .i64 (b)), (.int .i64 (c))] =
 cond (decide (b ≤ a))
 (some [(.bool (decide (a ≤ c)))])
 (some [(.bool (false))]) := by kernel_rfl
theorem qfb (k : Nat) (a : Int) : go (k + 1) impl_isLevel [(.int .i64 (a))] =
 (go k impl_within [(.int .i64 (a)), (.int .i64 (0 : Int)), (.int .i64 ((4 : Int)))]).bind fun r0 =>
 some [(.bool (bit (nth r0 0)))] := by kernel_rfl
theorem qf7 (k : Nat) (a0 a1 a2 : Int) : go (k + 1) spec_IdOk [(.agg [(.int .i64 (a0)), (.int .i64 (a1)), (.int .i64 (a2))])] =
 (go k spec_l01In [(.int .i64 (a0)), (.int .i64 (0 : Int)), (.int .i64 ((7 : Int)))]).bind fun r0 =>
 cond (bit (nth r0 0))
 ((go k spec_l01In [(.int .i64 (a1)), (.int .i64 (0 : Int)), (.int .i64 ((4 : Int)))]).bind fun r1 =>
 cond (bit (nth r1 0))
 (cond (decide ((0 : Int) ≤ a2))
 (cond (decide ((0 : Int) ≤ IntKind.wrap IntKind.u64 a1))
 (some [(.bool (decide (a2 < IntKind.wrap .i64 ((1 : Int) * (2 : Int) ^ shiftN .i64 (IntKind.wrap IntKind.u64 a1)))))])
 (none))
 (some [(.bool (false))]))
 (some [(.bool (false))]))
 (some [(.bool (false))]) := by kernel_rfl
theorem qek (k : Nat) (a0 a1 a2 : Int) : go (k + 1) impl_IdOk [(.agg [(.int .i64 (a0)), (.int .i64 (a1)), (.int .i64 (a2))])] =
 (go k impl_within [(.int .i64 (a0)), (.int .i64 (0 : Int)), (.int .i64 ((7 : Int)))]).bind fun r0 =>
 cond (bit (nth r0 0))
 ((go k impl_isLevel [(.int .i64 (a1))]).bind fun r1 =>
 cond (bit (nth r1 0))
 (cond (decide ((0 : Int) ≤ a1))
 ((go k impl_within [(.int .i64 (a2)), (.int .i64 (0 : Int)), (.int .i64 (IntKind.wrap .i64 (IntKind.wrap .i64 ((1 : Int) * (2 : Int) ^ shiftN .i64 a1) - (1 : Int))))]).bind fun r2 =>
 some [(.bool (bit (nth r2 0)))])
 (none))
 (some [(.bool (false))]))
 (some [(.bool (false))]) := by kernel_rfl
theorem qgg (k : Nat) (a : Int) : go (k + 1) spec_WidthOf [(.int .i64 (a))] =
 (go k spec_l01In [(.int .i64 (a)), (.int .i64 (0 : Int)), (.int .i64 ((4 : Int)))]).bind fun r0 =>
 cond (!bit (nth r0 0))
 (some [(.int .i64 (0 : Int))])
 (cond (decide ((0 : Int) ≤ IntKind.wrap IntKind.u64 a))
 (some [(.int .i64 (Int.fdiv (16 : Int) ((2 : Int) ^ shiftN .i64 (IntKind.wrap IntKind.u64 a))))])
 (none)) := by kernel_rfl
theorem qe4 (k : Nat) (a : Int) : go (k + 1) impl_WidthOf [(.int .i64 (a))] =
 (go k impl_isLevel [(.int .i64 (a))]).bind fun r0 =>
 cond (!bit (nth r0 0))
 (some [(.int .i64 (0 : Int))])
 (cond (decide ((0 : Int) ≤ a))
 (some [(.int .i64 (Int.fdiv (16 : Int) ((2 : Int) ^ shiftN .i64 a)))])
 (none)) := by kernel_rfl
theorem qge (k : Nat) (a0 a1 a2 : Int) : go (k + 1) spec_StartOf [(.agg [(.int .i64 (a0)), (.int .i64 (a1)), (.int .i64 (a2))])] =
 (go k spec_IdOk [(.agg [(.int .i64 (a0)), (.int .i64 (a1)), (.int .i64 (a2))])]).bind fun r0 =>
 cond (!bit (nth r0 0))
 (some [(.int .i64 ((-1 : Int)))])
 ((go k spec_WidthOf [(.int .i64 (a1))]).bind fun r1 =>
 some [(.int .i64 (IntKind.wrap .i64 (IntKind.wrap .i64 (a0 * (16 : Int)) + IntKind.wrap .i64 (a2 * D.toInt (nth r1 0)))))]) := by kernel_rfl
theorem qeu (k : Nat) (a0 a1 a2 : Int) : go (k + 1) impl_StartOf [(.agg [(.int .i64 (a0)), (.int .i64 (a1)), (.int .i64 (a2))])] =
 (go k impl_IdOk [(.agg [(.int .i64 (a0)), (.int .i64 (a1)), (.int .i64 (a2))])]).bind fun r0 =>
 cond (!bit (nth r0 0))
 (some [(.int .i64 ((-1 : Int)))])
 ((go k impl_WidthOf [(.int .i64 (a1))]).bind fun r1 =>
 some [(.int .i64 (IntKind.wrap .i64 (IntKind.wrap .i64 (a0 * (16 : Int)) + IntKind.wrap .i64 (a2 * D.toInt (nth r1 0)))))]) := by kernel_rfl
theorem qgj (k : Nat) (a0 a1 a2 : Int) : go (k + 1) spec_l04End [(.agg [(.int .i64 (a0)), (.int .i64 (a1)), (.int .i64 (a2))])] =
 (go k spec_StartOf [(.agg [(.int .i64 (a0)), (.int .i64 (a1)), (.int .i64 (a2))])]).bind fun r0 =>
 (go k spec_WidthOf [(.int .i64 (a1))]).bind fun r1 =>
 some [(.int .i64 (IntKind.wrap .i64 (D.toInt (nth r0 0) + D.toInt (nth r1 0))))] := by kernel_rfl
theorem qe8 (k : Nat) (a0 a1 a2 : Int) : go (k + 1) impl_endOf [(.agg [(.int .i64 (a0)), (.int .i64 (a1)), (.int .i64 (a2))])] =
 (go k impl_StartOf [(.agg [(.int .i64 (a0)), (.int .i64 (a1)), (.int .i64 (a2))])]).bind fun r0 =>
 (go k impl_WidthOf [(.int .i64 (a1))]).bind fun r1 =>
 some [(.int .i64 (IntKind.wrap .i64 (D.toInt (nth r0 0) + D.toInt (nth r1 0))))] := by kernel_rfl
def qmd (x0 x1 : Int) (z2 : Bool) (l3 : List (Int × Int × Int)) (x4 : Int) : St := ⟨fill 45 [(1, (.ptr 1 (0) (0))), (3, (.int .i64 (x0))), (4, (.int .i64 (x1)))], [], [(.arr false (z2) (.r3 (l3))), (.box true [(.int .i64 (x4)), (.sl 0 none)])]⟩
theorem qgb (k : Nat) (a0 : Int) (a1z : Bool) (a1 : List (Int × Int × Int)) : go (k + 1) spec_MeshOk [(.agg [(.int .i64 (a0)), (.arr false (a1z) (.r3 (a1)))])] =
 lp k spec_MeshOk [] [] 3 k (qmd (0 : Int) (0 : Int) a1z a1 a0) := by kernel_rfl
theorem qh9 (k n : Nat) (fu : List (Nat × Nat)) (x0 x1 : Int) (z2 : Bool) (l3 : List (Int × Int × Int)) (x4 : Int) : lp k spec_MeshOk [] fu 3 (n + 1) (qmd x0 x1 z2 l3 x4) =
 cond (decide (x1 < nI (List.length l3)))
 (cond (decide ((0 : Int) ≤ x1) && decide (x1 < nI (List.length l3)))
 ((go k spec_IdOk [(.agg [(.int .i64 (Prod.fst (List.getD l3 (Int.toNat x1) zz3))), (.int .i64 (Prod.fst (Prod.snd (List.getD l3 (Int.toNat x1) zz3)))), (.int .i64 (Prod.snd (Prod.snd (List.getD l3 (Int.toNat x1) zz3))))])]).bind fun r0 =>
 cond (!bit (nth r0 0))
 (some [(.bool (false))])
 (cond (decide ((0 : Int) ≤ x1) && decide (x1 < nI (List.length l3)))
 ((go k spec_StartOf [(.agg [(.int .i64 (Prod.fst (List.getD l3 (Int.toNat x1) zz3))), (.int .i64 (Prod.fst (Prod.snd (List.getD l3 (Int.toNat x1) zz3)))), (.int .i64 (Prod.snd (Prod.snd (List.getD l3 (Int.toNat x1) zz3))))])]).bind fun r1 =>
 cond (!decide (D.toInt (nth r1 0) = x0))
 (some [(.bool (false))])
 (cond (decide ((0 : Int) ≤ x1) && decide (x1 < nI (List.length l3)))
 ((go k spec_l04End [(.agg [(.int .i64 (Prod.fst (List.getD l3 (Int.toNat x1) zz3))), (.int .i64 (Prod.fst (Prod.snd (List.getD l3 (Int.toNat x1) zz3)))), (.int .i64 (Prod.snd (Prod.snd (List.getD l3 (Int.toNat x1) zz3))))])]).bind fun r2 =>
 lp k spec_MeshOk [] fu 3 n (qmd (D.toInt (nth r2 0)) (IntKind.wrap .i64 (x1 + (1 : Int))) z2 l3 x4))
 (none)))
 (none)))
 (none))
 ((go k spec_l01In [(.int .i64 (x4)), (.int .i64 ((1 : Int))), (.int .i64 ((8 : Int)))]).bind fun r3 =>
 cond (bit (nth r3 0))
 (some [(.bool (decide (x0 = IntKind.wrap .i64 (x4 * (16 : Int)))))])
 (some [(.bool (false))])) := by kernel_rfl
def qlr (x0 x1 x2 : Int) (z3 : Bool) (l4 : List (Int × Int × Int)) (x5 : Int) : St := ⟨fill 35 [(1, (.ptr 1 (0) (0))), (3, (.int .i64 (x0))), (7, (.sl 0 none)), (8, (.int .i64 (x1))), (9, (.int .i64 (x2)))], [], [(.arr false (z3) (.r3 (l4))), (.box true [(.int .i64 (x5)), (.sl 0 none)])]⟩
theorem qeo (k : Nat) (a0 : Int) (a1z : Bool) (a1 : List (Int × Int × Int)) : go (k + 1) impl_MeshOk [(.agg [(.int .i64 (a0)), (.arr false (a1z) (.r3 (a1)))])] =
 lp k impl_MeshOk [] [] 3 k (qlr (0 : Int) (nI (List.length a1)) (0 : Int) a1z a1 a0) := by kernel_rfl
theorem qhn (k n : Nat) (fu : List (Nat × Nat)) (x0 x1 x2 : Int) (z3 : Bool) (l4 : List (Int × Int × Int)) (x5 : Int) : lp k impl_MeshOk [] fu 3 (n + 1) (qlr x0 x1 x2 z3 l4 x5) =
 cond (decide (x2 < x1))
 (cond (decide ((0 : Int) ≤ x2) && decide (x2 < nI (List.length l4)))
 ((go k impl_IdOk [(.agg [(.int .i64 (Prod.fst (List.getD l4 (Int.toNat x2) zz3))), (.int .i64 (Prod.fst (Prod.snd (List.getD l4 (Int.toNat x2) zz3)))), (.int .i64 (Prod.snd (Prod.snd (List.getD l4 (Int.toNat x2) zz3))))])]).bind fun r0 =>
 cond (!bit (nth r0 0))
 (some [(.bool (false))])
 ((go k impl_StartOf [(.agg [(.int .i64 (Prod.fst (List.getD l4 (Int.toNat x2) zz3))), (.int .i64 (Prod.fst (Prod.snd (List.getD l4 (Int.toNat x2) zz3)))), (.int .i64 (Prod.snd (Prod.snd (List.getD l4 (Int.toNat x2) zz3))))])]).bind fun r1 =>
 cond (!decide (D.toInt (nth r1 0) = x0))
 (some [(.bool (false))])
 ((go k impl_endOf [(.agg [(.int .i64 (Prod.fst (List.getD l4 (Int.toNat x2) zz3))), (.int .i64 (Prod.fst (Prod.snd (List.getD l4 (Int.toNat x2) zz3)))), (.int .i64 (Prod.snd (Prod.snd (List.getD l4 (Int.toNat x2) zz3))))])]).bind fun r2 =>
 lp k impl_MeshOk [] fu 3 n (qlr (D.toInt (nth r2 0)) x1 (IntKind.wrap .i64 (x2 + (1 : Int))) z3 l4 x5))))
 (none))
 ((go k impl_within [(.int .i64 (x5)), (.int .i64 ((1 : Int))), (.int .i64 ((8 : Int)))]).bind fun r3 =>
 cond (bit (nth r3 0))
 (some [(.bool (decide (x0 = IntKind.wrap .i64 (x5 * (16 : Int)))))])
 (some [(.bool (false))])) := by kernel_rfl
theorem qgk (k : Nat) (a0 : Int) (a1z : Bool) (a1 : List (Int × Int × Int)) (b : Int) : go (k + 1) spec_l05Face [(.agg [(.int .i64 (a0)), (.arr false (a1z) (.r3 (a1)))]), (.int .i64 (b))] =
 cond (decide ((0 : Int) ≤ b) && decide (b < nI (List.length a1)))
 (cond (decide ((0 : Int) ≤ IntKind.wrap .i64 (b + (1 : Int))) && decide (IntKind.wrap .i64 (b + (1 : Int)) < nI (List.length a1)))
 (some [(.int .i64 (if Prod.fst (Prod.snd (List.getD a1 (Int.toNat (IntKind.wrap .i64 (b + (1 : Int)))) zz3)) > Prod.fst (Prod.snd (List.getD a1 (Int.toNat b) zz3)) then Prod.fst (Prod.snd (List.getD a1 (Int.toNat (IntKind.wrap .i64 (b + (1 : Int)))) zz3)) else Prod.fst (Prod.snd (List.getD a1 (Int.toNat b) zz3))))])
 (none))
 (none) := by kernel_rfl
theorem qeq (k : Nat) (a0 : Int) (a1z : Bool) (a1 : List (Int × Int × Int)) (b : Int) : go (k + 1) impl_Mesh_faceLevel [(.agg [(.int .i64 (a0)), (.arr false (a1z) (.r3 (a1)))]), (.int .i64 (b))] =
 cond (decide ((0 : Int) ≤ b) && decide (b < nI (List.length a1)))
 (cond (decide ((0 : Int) ≤ IntKind.wrap .i64 (b + (1 : Int))) && decide (IntKind.wrap .i64 (b + (1 : Int)) < nI (List.length a1)))
 (some [(.int .i64 (if Prod.fst (Prod.snd (List.getD a1 (Int.toNat (IntKind.wrap .i64 (b + (1 : Int)))) zz3)) > Prod.fst (Prod.snd (List.getD a1 (Int.toNat b) zz3)) then Prod.fst (Prod.snd (List.getD a1 (Int.toNat (IntKind.wrap .i64 (b + (1 : Int)))) zz3)) else Prod.fst (Prod.snd (List.getD a1 (Int.toNat b) zz3))))])
 (none))
 (none) := by kernel_rfl
theorem qf8 (k : Nat) (a b : Int) : go (k + 1) spec_IsActive [(.int .i64 (a)), (.int .i64 (b))] =
 (go k spec_WidthOf [(.int .i64 (b))]).bind fun r0 =>
 cond (decide ((0 : Int) ≤ a))
 (cond (decide ((0 : Int) < D.toInt (nth r0 0)))
 (cond (!decide (D.toInt (nth r0 0) = (0 : Int)))
 (some [(.bool (decide (Int.tmod a (D.toInt (nth r0 0)) = (0 : Int))))])
 (none))
 (some [(.bool (false))]))
 (some [(.bool (false))]) := by kernel_rfl
theorem qel (k : Nat) (a b : Int) : go (k + 1) impl_IsActive [(.int .i64 (a)), (.int .i64 (b))] =
 (go k impl_isLevel [(.int .i64 (b))]).bind fun r0 =>
 cond (bit (nth r0 0))
 (cond (decide ((0 : Int) ≤ a))
 ((go k impl_WidthOf [(.int .i64 (b))]).bind fun r1 =>
 cond (!decide (D.toInt (nth r1 0) = (0 : Int)))
 (some [(.bool (decide (Int.tmod a (D.toInt (nth r1 0)) = (0 : Int))))])
 (none))
 (some [(.bool (false))]))
 (some [(.bool (false))]) := by kernel_rfl
def qmh (x0 : Int) (z1 : Bool) (l2 : List (Int × Int × Int)) (x3 : Int) : St := ⟨fill 34 [(1, (.ptr 1 (0) (0))), (3, (.int .i64 (x0)))], [], [(.arr false (z1) (.r3 (l2))), (.box true [(.int .i64 (x3)), (.sl 0 none)])]⟩
theorem qgl (k : Nat) (a0 : Int) (a1z : Bool) (a1 : List (Int × Int × Int)) : go (k + 1) spec_l05First [(.agg [(.int .i64 (a0)), (.arr false (a1z) (.r3 (a1)))])] =
 lp k spec_l05First [] [] 2 k (qmh (0 : Int) a1z a1 a0) := by kernel_rfl
theorem qid (k n : Nat) (fu : List (Nat × Nat)) (x0 : Int) (z1 : Bool) (l2 : List (Int × Int × Int)) (x3 : Int) : lp k spec_l05First [] fu 2 (n + 1) (qmh x0 z1 l2 x3) =
 cond (decide (IntKind.wrap .i64 (x0 + (1 : Int)) < nI (List.length l2)))
 (cond (decide ((0 : Int) ≤ x0) && decide (x0 < nI (List.length l2)))
 (cond (decide ((0 : Int) ≤ IntKind.wrap .i64 (x0 + (1 : Int))) && decide (IntKind.wrap .i64 (x0 + (1 : Int)) < nI (List.length l2)))
 (cond (decide ((1 : Int) < IntKind.wrap .i64 (Prod.fst (Prod.snd (List.getD l2 (Int.toNat x0) zz3)) - Prod.fst (Prod.snd (List.getD l2 (Int.toNat (IntKind.wrap .i64 (x0 + (1 : Int)))) zz3)))))
 (some [(.int .i64 (x0))])
 (cond (decide (IntKind.wrap .i64 (Prod.fst (Prod.snd (List.getD l2 (Int.toNat x0) zz3)) - Prod.fst (Prod.snd (List.getD l2 (Int.toNat (IntKind.wrap .i64 (x0 + (1 : Int)))) zz3))) < (-1 : Int)))
 (some [(.int .i64 (x0))])
 (lp k spec_l05First [] fu 2 n (qmh (IntKind.wrap .i64 (x0 + (1 : Int))) z1 l2 x3))))
 (none))
 (none))
 (some [(.int .i64 ((-1 : Int)))]) := by kernel_rfl
def qlt (x0 x1 : Int) (z2 : Bool) (l3 : List (Int × Int × Int)) (x4 : Int) : St := ⟨fill 29 [(1, (.ptr 1 (0) (0))), (7, (.int .i64 (x0))), (8, (.int .i64 (x1)))], [], [(.arr false (z2) (.r3 (l3))), (.box true [(.int .i64 (x4)), (.sl 0 none)])]⟩
theorem qer (k : Nat) (a0 : Int) (a1z : Bool) (a1 : List (Int × Int × Int)) : go (k + 1) impl_Mesh_unbalanced [(.agg [(.int .i64 (a0)), (.arr false (a1z) (.r3 (a1)))])] =
 lp k impl_Mesh_unbalanced [] [] 2 k (qlt (IntKind.wrap .i64 (nI (List.length a1) - (1 : Int))) (0 : Int) a1z a1 a0) := by kernel_rfl
theorem qhp (k n : Nat) (fu : List (Nat × Nat)) (x0 x1 : Int) (z2 : Bool) (l3 : List (Int × Int × Int)) (x4 : Int) : lp k impl_Mesh_unbalanced [] fu 2 (n + 1) (qlt x0 x1 z2 l3 x4) =
 cond (decide (x1 < x0))
 (cond (decide ((0 : Int) ≤ x1) && decide (x1 < nI (List.length l3)))
 (cond (decide ((0 : Int) ≤ IntKind.wrap .i64 (x1 + (1 : Int))) && decide (IntKind.wrap .i64 (x1 + (1 : Int)) < nI (List.length l3)))
 ((go k impl_absolute [(.int .i64 (IntKind.wrap .i64 (Prod.fst (Prod.snd (List.getD l3 (Int.toNat x1) zz3)) - Prod.fst (Prod.snd (List.getD l3 (Int.toNat (IntKind.wrap .i64 (x1 + (1 : Int)))) zz3)))))]).bind fun r0 =>
 cond (decide ((1 : Int) < D.toInt (nth r0 0)))
 (some [(.int .i64 (x1))])
 (lp k impl_Mesh_unbalanced [] fu 2 n (qlt x0 (IntKind.wrap .i64 (x1 + (1 : Int))) z2 l3 x4)))
 (none))
 (none))
 (some [(.int .i64 ((-1 : Int)))]) := by kernel_rfl
theorem qe5 (k : Nat) (a : Int) : go (k + 1) impl_absolute [(.int .i64 (a))] =
 some [(.int .i64 (if IntKind.wrap .i64 ((0 : Int) - a) > a then IntKind.wrap .i64 ((0 : Int) - a) else a))] := by kernel_rfl
theorem qf9 (k : Nat) (a0 : Int) (a1z : Bool) (a1 : List (Int × Int × Int)) : go (k + 1) spec_IsBalanced [(.agg [(.int .i64 (a0)), (.arr false (a1z) (.r3 (a1)))])] =
 (go k spec_MeshOk [(.agg [(.int .i64 (a0)), (.arr false (a1z) (.r3 (a1)))])]).bind fun r0 =>
 cond (bit (nth r0 0))
 ((go k spec_l05First [(.agg [(.int .i64 (a0)), (.arr false (a1z) (.r3 (a1)))])]).bind fun r1 =>
 some [(.bool (decide (D.toInt (nth r1 0) < (0 : Int))))])
 (some [(.bool (false))]) := by kernel_rfl
theorem qem (k : Nat) (a0 : Int) (a1z : Bool) (a1 : List (Int × Int × Int)) : go (k + 1) impl_IsBalanced [(.agg [(.int .i64 (a0)), (.arr false (a1z) (.r3 (a1)))])] =
 (go k impl_MeshOk [(.agg [(.int .i64 (a0)), (.arr false (a1z) (.r3 (a1)))])]).bind fun r0 =>
 cond (bit (nth r0 0))
 ((go k impl_Mesh_unbalanced [(.agg [(.int .i64 (a0)), (.arr false (a1z) (.r3 (a1)))])]).bind fun r1 =>
 some [(.bool (decide (D.toInt (nth r1 0) < (0 : Int))))])
 (some [(.bool (false))]) := by kernel_rfl
theorem qes (k : Nat) (a0 : Int) (a1z : Bool) (a1 : List (Int × Int × Int)) (b0 : Int) (b1z : Bool) (b1 : List (Int × Int × Int)) : go (k + 1) impl_SameMesh [(.agg [(.int .i64 (a0)), (.arr false (a1z) (.r3 (a1)))]), (.agg [(.int .i64 (b0)), (.arr false (b1z) (.r3 (b1)))])] =
 cond (decide (a0 = b0))
 ((go k slices_Equal_impl_Id_impl_Id [(.arr false (a1z) (.r3 (a1))), (.arr false (b1z) (.r3 (b1)))]).bind fun r0 =>
 some [(.bool (bit (nth r0 0)))])
 (some [(.bool (false))]) := by kernel_rfl
def qma (x0 x1 : Int) (z2 : Bool) (l3 : List (Int × Int × Int)) (z4 : Bool) (l5 : List (Int × Int × Int)) : St := ⟨fill 26 [(0, (.sl 0 none)), (1, (.sl 1 none)), (12, (.int .i64 (x0))), (13, (.int .i64 (x1)))], [], [(.arr false (z2) (.r3 (l3))), (.arr false (z4) (.r3 (l5)))]⟩
theorem qf3 (k : Nat) (az : Bool) (a : List (Int × Int × Int)) (bz : Bool) (b : List (Int × Int × Int)) : go (k + 1) slices_Equal_impl_Id_impl_Id [(.arr false (az) (.r3 (a))), (.arr false (bz) (.r3 (b)))] =
 cond (!decide (nI (List.length a) = nI (List.length b)))
 (some [(.bool (false))])
 (lp k slices_Equal_impl_Id_impl_Id [] [] 4 k (qma (nI (List.length a)) (0 : Int) az a bz b)) := by kernel_rfl
theorem qh6 (k n : Nat) (fu : List (Nat × Nat)) (x0 x1 : Int) (z2 : Bool) (l3 : List (Int × Int × Int)) (z4 : Bool) (l5 : List (Int × Int × Int)) : lp k slices_Equal_impl_Id_impl_Id [] fu 4 (n + 1) (qma x0 x1 z2 l3 z4 l5) =
 cond (decide (x1 < x0))
 (cond (decide ((0 : Int) ≤ x1) && decide (x1 < nI (List.length l3)))
 (cond (decide ((0 : Int) ≤ x1) && decide (x1 < nI (List.length l5)))
 (cond (!(decide (Prod.fst (List.getD l3 (Int.toNat x1) zz3) = Prod.fst (List.getD l5 (Int.toNat x1) zz3)) && (decide (Prod.fst (Prod.snd (List.getD l3 (Int.toNat x1) zz3)) = Prod.fst (Prod.snd (List.getD l5 (Int.toNat x1) zz3))) && (decide (Prod.snd (Prod.snd (List.getD l3 (Int.toNat x1) zz3)) = Prod.snd (Prod.snd (List.getD l5 (Int.toNat x1) zz3))) && true))))
 (some [(.bool (false))])
 (lp k slices_Equal_impl_Id_impl_Id [] fu 4 n (qma x0 (IntKind.wrap .i64 (x1 + (1 : Int))) z2 l3 z4 l5)))
 (none))
 (none))
 (some [(.bool (true))]) := by kernel_rfl
def qme (x0 : Int) (z1 : Bool) (l2 : List (Int × Int × Int)) (x3 : Int) (z4 : Bool) (l5 : List (Int × Int × Int)) (x6 : Int) : St := ⟨fill 38 [(2, (.ptr 1 (0) (0))), (3, (.ptr 3 (0) (0))), (5, (.int .i64 (x0)))], [], [(.arr false (z1) (.r3 (l2))), (.box true [(.int .i64 (x3)), (.sl 0 none)]), (.arr false (z4) (.r3 (l5))), (.box true [(.int .i64 (x6)), (.sl 2 none)])]⟩
theorem qgc (k : Nat) (a0 : Int) (a1z : Bool) (a1 : List (Int × Int × Int)) (b0 : Int) (b1z : Bool) (b1 : List (Int × Int × Int)) : go (k + 1) spec_SameMesh [(.agg [(.int .i64 (a0)), (.arr false (a1z) (.r3 (a1)))]), (.agg [(.int .i64 (b0)), (.arr false (b1z) (.r3 (b1)))])] =
 cond (!decide (a0 = b0))
 (some [(.bool (false))])
 (cond (!decide (nI (List.length a1) = nI (List.length b1)))
 (some [(.bool (false))])
 (lp k spec_SameMesh [] [] 4 k (qme (0 : Int) a1z a1 a0 b1z b1 b0))) := by kernel_rfl
theorem qia (k n : Nat) (fu : List (Nat × Nat)) (x0 : Int) (z1 : Bool) (l2 : List (Int × Int × Int)) (x3 : Int) (z4 : Bool) (l5 : List (Int × Int × Int)) (x6 : Int) : lp k spec_SameMesh [] fu 4 (n + 1) (qme x0 z1 l2 x3 z4 l5 x6) =
 cond (decide (x0 < nI (List.length l2)))
 (cond (decide ((0 : Int) ≤ x0) && decide (x0 < nI (List.length l2)))
 (cond (decide ((0 : Int) ≤ x0) && decide (x0 < nI (List.length l5)))
 (cond (!(decide (Prod.fst (List.getD l2 (Int.toNat x0) zz3) = Prod.fst (List.getD l5 (Int.toNat x0) zz3)) && (decide (Prod.fst (Prod.snd (List.getD l2 (Int.toNat x0) zz3)) = Prod.fst (Prod.snd (List.getD l5 (Int.toNat x0) zz3))) && (decide (Prod.snd (Prod.snd (List.getD l2 (Int.toNat x0) zz3)) = Prod.snd (Prod.snd (List.getD l5 (Int.toNat x0) zz3))) && true))))
 (some [(.bool (false))])
 (lp k spec_SameMesh [] fu 4 n (qme (IntKind.wrap .i64 (x0 + (1 : Int))) z1 l2 x3 z4 l5 x6)))
 (none))
 (none))
 (some [(.bool (true))]) := by kernel_rfl

end Go.Proofs.Ytcaapedadpnjoaa
end
section
namespace Go.Proofs.Ytcaapedadpnjoaa
open Go.Ev
abbrev L3 := List (Int × Int × Int)
abbrev LI := List Int
def sA {α : Type} (f : Bool → L3 → Bool → LI → Bool → LI → Bool → LI → Int → α) (d : D) : α := f (D.nil (D.cell 1 d)) (D.r3 (D.cell 1 d)) (D.nil (D.cell 2 d)) (D.ints (D.cell 2 d)) (D.nil (D.cell 3 d)) (D.ints (D.cell 3 d)) (D.nil (D.cell 4 d)) (D.ints (D.cell 4 d)) (D.toInt (D.cell 0 d))
end Go.Proofs.Ytcaapedadpnjoaa
end
section
namespace Go.Proofs.Ytcaapedadpnjoaa
open Go.Ev
theorem qn7 {x : Int} (h : -9223372036854775808 ≤ x) (h' : x ≤ 9223372036854775807) : IntKind.wrap .i64 x = x := by rw [IntKind.wrap_i64]; omega
theorem qn8 {x : Int} (h : 0 ≤ x) (h' : x ≤ 9223372036854775807) : IntKind.wrap .u64 x = x := by rw [IntKind.wrap_u64]; omega
theorem nth0 (d0 : D) (l : List D) : nth (d0 :: l) 0 = d0 := Eq.trans rfl rfl
theorem nth1 (d0 d1 : D) (l : List D) : nth (d0 :: d1 :: l) 1 = d1 := Eq.trans rfl rfl
theorem nth2 (d0 d1 d2 : D) (l : List D) : nth (d0 :: d1 :: d2 :: l) 2 = d2 := Eq.trans rfl rfl
theorem nth3 (d0 d1 d2 d3 : D) (l : List D) : nth (d0 :: d1 :: d2 :: d3 :: l) 3 = d3 := Eq.trans rfl rfl
theorem qde (d0 : D) (l : List D) : (D.agg (d0 :: l)).cell 0 = d0 := Eq.trans rfl rfl
theorem qdf (d0 d1 : D) (l : List D) : (D.agg (d0 :: d1 :: l)).cell 1 = d1 := Eq.trans rfl rfl
theorem qdq (d0 d1 d2 : D) (l : List D) : (D.agg (d0 :: d1 :: d2 :: l)).cell 2 = d2 := Eq.trans rfl rfl
theorem qdv (d0 d1 d2 d3 : D) (l : List D) : (D.agg (d0 :: d1 :: d2 :: d3 :: l)).cell 3 = d3 := Eq.trans rfl rfl
theorem qdw (d0 d1 d2 d3 d4 : D) (l : List D) : (D.agg (d0 :: d1 :: d2 :: d3 :: d4 :: l)).cell 4 = d4 := Eq.trans rfl rfl
theorem qdx (d0 d1 d2 d3 d4 d5 : D) (l : List D) : (D.agg (d0 :: d1 :: d2 :: d3 :: d4 :: d5 :: l)).cell 5 = d5 := Eq.trans rfl rfl
theorem qdy (d0 d1 d2 d3 d4 d5 d6 : D) (l : List D) : (D.agg (d0 :: d1 :: d2 :: d3 :: d4 :: d5 :: d6 :: l)).cell 6 = d6 := Eq.trans rfl rfl
theorem qdz (d0 d1 d2 d3 d4 d5 d6 d7 : D) (l : List D) : (D.agg (d0 :: d1 :: d2 :: d3 :: d4 :: d5 :: d6 :: d7 :: l)).cell 7 = d7 := Eq.trans rfl rfl
theorem qd0 (d0 d1 d2 d3 d4 d5 d6 d7 d8 : D) (l : List D) : (D.agg (d0 :: d1 :: d2 :: d3 :: d4 :: d5 :: d6 :: d7 :: d8 :: l)).cell 8 = d8 := Eq.trans rfl rfl
theorem qd1 (d0 d1 d2 d3 d4 d5 d6 d7 d8 d9 : D) (l : List D) : (D.agg (d0 :: d1 :: d2 :: d3 :: d4 :: d5 :: d6 :: d7 :: d8 :: d9 :: l)).cell 9 = d9 := Eq.trans rfl rfl
theorem qdg (d0 d1 d2 d3 d4 d5 d6 d7 d8 d9 d10 : D) (l : List D) : (D.agg (d0 :: d1 :: d2 :: d3 :: d4 :: d5 :: d6 :: d7 :: d8 :: d9 :: d10 :: l)).cell 10 = d10 := Eq.trans rfl rfl
theorem qdh (d0 d1 d2 d3 d4 d5 d6 d7 d8 d9 d10 d11 : D) (l : List D) : (D.agg (d0 :: d1 :: d2 :: d3 :: d4 :: d5 :: d6 :: d7 :: d8 :: d9 :: d10 :: d11 :: l)).cell 11 = d11 := Eq.trans rfl rfl
theorem qdi (d0 d1 d2 d3 d4 d5 d6 d7 d8 d9 d10 d11 d12 : D) (l : List D) : (D.agg (d0 :: d1 :: d2 :: d3 :: d4 :: d5 :: d6 :: d7 :: d8 :: d9 :: d10 :: d11 :: d12 :: l)).cell 12 = d12 := Eq.trans rfl rfl
theorem qdj (d0 d1 d2 d3 d4 d5 d6 d7 d8 d9 d10 d11 d12 d13 : D) (l : List D) : (D.agg (d0 :: d1 :: d2 :: d3 :: d4 :: d5 :: d6 :: d7 :: d8 :: d9 :: d10 :: d11 :: d12 :: d13 :: l)).cell 13 = d13 := Eq.trans rfl rfl
theorem qdk (d0 d1 d2 d3 d4 d5 d6 d7 d8 d9 d10 d11 d12 d13 d14 : D) (l : List D) : (D.agg (d0 :: d1 :: d2 :: d3 :: d4 :: d5 :: d6 :: d7 :: d8 :: d9 :: d10 :: d11 :: d12 :: d13 :: d14 :: l)).cell 14 = d14 := Eq.trans rfl rfl
theorem qdl (d0 d1 d2 d3 d4 d5 d6 d7 d8 d9 d10 d11 d12 d13 d14 d15 : D) (l : List D) : (D.agg (d0 :: d1 :: d2 :: d3 :: d4 :: d5 :: d6 :: d7 :: d8 :: d9 :: d10 :: d11 :: d12 :: d13 :: d14 :: d15 :: l)).cell 15 = d15 := Eq.trans rfl rfl
theorem qdm (d0 d1 d2 d3 d4 d5 d6 d7 d8 d9 d10 d11 d12 d13 d14 d15 d16 : D) (l : List D) : (D.agg (d0 :: d1 :: d2 :: d3 :: d4 :: d5 :: d6 :: d7 :: d8 :: d9 :: d10 :: d11 :: d12 :: d13 :: d14 :: d15 :: d16 :: l)).cell 16 = d16 := Eq.trans rfl rfl
theorem qdn (d0 d1 d2 d3 d4 d5 d6 d7 d8 d9 d10 d11 d12 d13 d14 d15 d16 d17 : D) (l : List D) : (D.agg (d0 :: d1 :: d2 :: d3 :: d4 :: d5 :: d6 :: d7 :: d8 :: d9 :: d10 :: d11 :: d12 :: d13 :: d14 :: d15 :: d16 :: d17 :: l)).cell 17 = d17 := Eq.trans rfl rfl
theorem qdo (d0 d1 d2 d3 d4 d5 d6 d7 d8 d9 d10 d11 d12 d13 d14 d15 d16 d17 d18 : D) (l : List D) : (D.agg (d0 :: d1 :: d2 :: d3 :: d4 :: d5 :: d6 :: d7 :: d8 :: d9 :: d10 :: d11 :: d12 :: d13 :: d14 :: d15 :: d16 :: d17 :: d18 :: l)).cell 18 = d18 := Eq.trans rfl rfl
theorem qdp (d0 d1 d2 d3 d4 d5 d6 d7 d8 d9 d10 d11 d12 d13 d14 d15 d16 d17 d18 d19 : D) (l : List D) : (D.agg (d0 :: d1 :: d2 :: d3 :: d4 :: d5 :: d6 :: d7 :: d8 :: d9 :: d10 :: d11 :: d12 :: d13 :: d14 :: d15 :: d16 :: d17 :: d18 :: d19 :: l)).cell 19 = d19 := Eq.trans rfl rfl
theorem qdr (d0 d1 d2 d3 d4 d5 d6 d7 d8 d9 d10 d11 d12 d13 d14 d15 d16 d17 d18 d19 d20 : D) (l : List D) : (D.agg (d0 :: d1 :: d2 :: d3 :: d4 :: d5 :: d6 :: d7 :: d8 :: d9 :: d10 :: d11 :: d12 :: d13 :: d14 :: d15 :: d16 :: d17 :: d18 :: d19 :: d20 :: l)).cell 20 = d20 := Eq.trans rfl rfl
theorem qds (d0 d1 d2 d3 d4 d5 d6 d7 d8 d9 d10 d11 d12 d13 d14 d15 d16 d17 d18 d19 d20 d21 : D) (l : List D) : (D.agg (d0 :: d1 :: d2 :: d3 :: d4 :: d5 :: d6 :: d7 :: d8 :: d9 :: d10 :: d11 :: d12 :: d13 :: d14 :: d15 :: d16 :: d17 :: d18 :: d19 :: d20 :: d21 :: l)).cell 21 = d21 := Eq.trans rfl rfl
theorem qdt (d0 d1 d2 d3 d4 d5 d6 d7 d8 d9 d10 d11 d12 d13 d14 d15 d16 d17 d18 d19 d20 d21 d22 : D) (l : List D) : (D.agg (d0 :: d1 :: d2 :: d3 :: d4 :: d5 :: d6 :: d7 :: d8 :: d9 :: d10 :: d11 :: d12 :: d13 :: d14 :: d15 :: d16 :: d17 :: d18 :: d19 :: d20 :: d21 :: d22 :: l)).cell 22 = d22 := Eq.trans rfl rfl
theorem qdu (d0 d1 d2 d3 d4 d5 d6 d7 d8 d9 d10 d11 d12 d13 d14 d15 d16 d17 d18 d19 d20 d21 d22 d23 : D) (l : List D) : (D.agg (d0 :: d1 :: d2 :: d3 :: d4 :: d5 :: d6 :: d7 :: d8 :: d9 :: d10 :: d11 :: d12 :: d13 :: d14 :: d15 :: d16 :: d17 :: d18 :: d19 :: d20 :: d21 :: d22 :: d23 :: l)).cell 23 = d23 := Eq.trans rfl rfl
theorem qnn (k : IntKind) (n : Int) : (D.int k n).toInt = n := Eq.trans rfl rfl
theorem qnm (b : Bool) : (D.bool b).toBool = b := Eq.trans rfl rfl
theorem qno (s : ByteArray) : (D.str s).toStr = s := Eq.trans rfl rfl
theorem qko (o n : Bool) (a : Arr) : (D.arr o n a).nil = n := Eq.trans rfl rfl
theorem qlb (o n : Bool) (l : List (Int × Int × Int)) : (D.arr o n (.r3 l)).r3 = l := Eq.trans rfl rfl
theorem qlc (o n : Bool) (l : List (Int × Int × Int × Int)) : (D.arr o n (.r4 l)).r4 = l := Eq.trans rfl rfl
theorem qhh (o n : Bool) (k : IntKind) (l : List Int) : (D.arr o n (.ints k l)).ints = l := Eq.trans rfl rfl
theorem qax (o n : Bool) (l : List Bool) : (D.arr o n (.bools l)).bools = l := Eq.trans rfl rfl
theorem qm5 (o n : Bool) (l : List ByteArray) : (D.arr o n (.strs l)).strs = l := Eq.trans rfl rfl
theorem qd7 {α : Type} (x y : α) : cond true x y = x := Eq.trans rfl rfl
theorem qd5 {α : Type} (x y : α) : cond false x y = y := Eq.trans rfl rfl
theorem qaw {α : Type} (x : List D) (f : List D → Option α) : (some x).bind f = f x := Eq.trans rfl rfl
theorem dT {p : Prop} {i : Decidable p} (h : p) : @decide p i = true := by cases i <;> simp_all
theorem dF {p : Prop} {i : Decidable p} (h : ¬p) : @decide p i = false := by cases i <;> simp_all
theorem qdc (i : Nat) : (i : Int) + 1 = ((i + 1 : Nat) : Int) := Eq.trans rfl rfl
theorem qdd (i : Nat) : (i : Int) + 2 = ((i + 2 : Nat) : Int) := Eq.trans rfl rfl
theorem qdb {i : Nat} (h : 1 ≤ i) : (i : Int) - 1 = ((i - 1 : Nat) : Int) := by omega
theorem itT {α : Type} {i : Decidable True} (x y : α) : @ite α True i x y = x := by cases i with | isTrue _ => rfl | isFalse h => exact absurd trivial h
theorem itF {α : Type} {i : Decidable False} (x y : α) : @ite α False i x y = y := by cases i with | isTrue h => exact h.elim | isFalse _ => rfl
theorem niF {α : Type} {a b : Nat} {i : Decidable (a = b)} {x y : α} (h : ¬ a = b) : @ite α (a = b) i x y = y := by cases i with | isTrue e => exact absurd e h | isFalse _ => rfl
theorem imax (x y : Int) : (if x > y then x else y) = max x y := by by_cases h : x > y <;> simp only [h, if_true, if_false] <;> omega
theorem imin (x y : Int) : (if x < y then x else y) = min x y := by by_cases h : x < y <;> simp only [h, if_true, if_false] <;> omega
theorem qd8 (b x : Bool) : cond (!b) (some [D.bool false]) (some [D.bool x]) = some [D.bool (b && x)] := by cases b <;> rfl
theorem qd9 (b x : Bool) : cond b (some [D.bool x]) (some [D.bool false]) = some [D.bool (b && x)] := by cases b <;> rfl
theorem dTT {i : Decidable True} : @decide True i = true := by cases i with | isTrue _ => rfl | isFalse h => exact absurd trivial h
theorem dFF {i : Decidable False} : @decide False i = false := by cases i with | isTrue h => exact h.elim | isFalse _ => rfl
theorem bigI : ((bigLen : Nat) : Int) = 1099511627776 := Eq.trans rfl rfl
theorem qkn {α : Type} (l : List α) : [] ++ l = l := Eq.trans rfl rfl
theorem big0 : bigLen = 1099511627776 := Eq.trans rfl rfl
theorem qeb {α : Type} {l : List α} {i : Nat} (h : i < l.length) (d : α) : l.drop i = l.getD i d :: l.drop (i + 1) := by
  rw [List.drop_eq_getElem_cons h]; simp [h]
theorem qmr {α : Type} (l : List α) (i j : Nat) (x d : α) : (l.set i x).getD j d = if i = j ∧ i < l.length then x else l.getD j d := by
  simp only [List.getD_eq_getElem?_getD, List.getElem?_set]
  by_cases h : i = j
  · subst h
    by_cases h2 : i < l.length
    · simp [h2]
    · simp [h2]
  · simp [h]
theorem qms {α : Type} (l m : List α) (i : Nat) (x : α) (t : List α) (h : i < l.length) : (l.set i x).take (i + 1) ++ t = l.take i ++ (x :: t) := by
  have : (l.set i x).take (i + 1) = l.take i ++ [x] := by
    rw [List.take_succ_eq_append_getElem (by simp; omega)]
    simp [List.take_set_of_le]
  rw [this]; simp
theorem qg6 {α : Type} {l : List α} {i : Nat} (h : l.length ≤ i) (d : α) : l.getD i d = d := by simp [h]
theorem qg7 {α : Type} {l : List α} {i : Nat} (h : i < l.length) (d : α) : l.getD i d ∈ l := by simp [h]
end Go.Proofs.Ytcaapedadpnjoaa
end
section
namespace Go.Proofs.Ytcaapedadpnjoaa
open Go.Ev
def inR (a b c : Int) : Bool := decide (b ≤ a) && decide (a ≤ c)
theorem qhf {a b c : Int} : inR a b c = true ↔ b ≤ a ∧ a ≤ c := by simp [inR]
theorem qc0 (k : Nat) (hk : 2000000 ≤ k) (a : Int) (b : Int) (c : Int) : go (k + 1) spec_l01In [(.int .i64 (a)), (.int .i64 (b)), (.int .i64 (c))] = some [.bool (inR a b c)] := by
  rw [qgh]; unfold inR; cases decide (b ≤ a) <;> rfl
theorem qbx (k : Nat) (hk : 2000000 ≤ k) (a : Int) (b : Int) (c : Int) : go (k + 1) impl_within [(.int .i64 (a)), (.int .i64 (b)), (.int .i64 (c))] = some [.bool (inR a b c)] := by
  rw [qfd]; unfold inR; cases decide (b ≤ a) <;> rfl
def pow2 (l : Int) : Int := 2 ^ l.toNat
def idOk (r l i : Int) : Bool := inR r 0 7 && (inR l 0 4 && (decide (0 ≤ i) && decide (i < pow2 l)))
theorem lev {l : Int} (h : inR l 0 4 = true) : l = 0 ∨ l = 1 ∨ l = 2 ∨ l = 3 ∨ l = 4 := by
  simp only [inR, Bool.and_eq_true, decide_eq_true_eq] at h; omega
theorem p20 : pow2 0 = 1 := rfl
theorem p21 : pow2 1 = 2 := rfl
theorem p22 : pow2 2 = 4 := rfl
theorem p23 : pow2 3 = 8 := rfl
theorem p24 : pow2 4 = 16 := rfl
theorem sh0 : shiftN .i64 0 = 0 := by decide
theorem sh1 : shiftN .i64 1 = 1 := by decide
theorem sh2 : shiftN .i64 2 = 2 := by decide
theorem sh3 : shiftN .i64 3 = 3 := by decide
theorem sh4 : shiftN .i64 4 = 4 := by decide
theorem pw {l : Int} (h : inR l 0 4 = true) : IntKind.wrap .i64 ((1 : Int) * (2 : Int) ^ shiftN .i64 l) = pow2 l := by
  rcases lev h with rfl | rfl | rfl | rfl | rfl <;> simp [sh0, sh1, sh2, sh3, sh4, qn7, p20, p21, p22, p23, p24]
theorem lev0 {l : Int} (h : inR l 0 4 = true) : 0 ≤ l ∧ l ≤ 4 := by
  simp only [inR, Bool.and_eq_true, decide_eq_true_eq] at h; omega
theorem qla {l : Int} (h : inR l 0 4 = true) : 1 ≤ pow2 l ∧ pow2 l ≤ 16 := by
  rcases lev h with rfl | rfl | rfl | rfl | rfl <;> simp [p20, p21, p22, p23, p24]
theorem qcq (k : Nat) (hk : 2000000 ≤ k) (a0 : Int) (a1 : Int) (a2 : Int) : go (k + 2) spec_IdOk [(.agg [(.int .i64 (a0)), (.int .i64 (a1)), (.int .i64 (a2))])] = some [.bool (idOk a0 a1 a2)] := by
  rw [qf7]
  simp (disch := omega) only [qaw, nth0, nth1, nth2, nth3, bit, qde, qdf, qdq, qdv, qdw, qdx, qdy, qdz, qd0, qd1, qdg, qdh, qdi, qdj, qdk, qdl, qdm, qdn, qdo, qdp, qdr, qds, qdt, qdu, qnn, qnm, qno, qko, qlb, qlc, qhh, qax, qm5, nI, qd7, qd5, Bool.not_true, Bool.not_false, Bool.and_true, Bool.true_and, Bool.and_false, Bool.false_and, Bool.or_true, Bool.true_or, Bool.or_false, Bool.false_or, beq_self_eq_true, dTT, dFF, dT, dF, bigI, big0, qkn, qn7, qn8, List.length_set, List.length_replicate, Int.toNat_natCast, qdc, qdd, imax, imin, qc0]
  unfold idOk
  cases h1 : inR a0 0 7 <;> cases h2 : inR a1 0 4 <;> simp only [qd7, qd5, Bool.true_and, Bool.false_and, Bool.and_false]
  have := lev0 h2
  rw [qn8 (x := a1) (by omega) (by omega), pw h2]
  by_cases h3 : (0 : Int) ≤ a2
  · simp [h3, this.1]
  · simp [h3]
theorem qbq (k : Nat) (hk : 2000000 ≤ k) (a : Int) : go (k + 2) impl_isLevel [(.int .i64 (a))] = some [.bool (inR a 0 4)] := by
  rw [qfb]
  simp (disch := omega) only [qaw, nth0, nth1, nth2, nth3, bit, qde, qdf, qdq, qdv, qdw, qdx, qdy, qdz, qd0, qd1, qdg, qdh, qdi, qdj, qdk, qdl, qdm, qdn, qdo, qdp, qdr, qds, qdt, qdu, qnn, qnm, qno, qko, qlb, qlc, qhh, qax, qm5, nI, qd7, qd5, Bool.not_true, Bool.not_false, Bool.and_true, Bool.true_and, Bool.and_false, Bool.false_and, Bool.or_true, Bool.true_or, Bool.or_false, Bool.false_or, beq_self_eq_true, dTT, dFF, dT, dF, bigI, big0, qkn, qn7, qn8, List.length_set, List.length_replicate, Int.toNat_natCast, qdc, qdd, imax, imin, qbx]
theorem qa5 (k : Nat) (hk : 2000000 ≤ k) (a0 : Int) (a1 : Int) (a2 : Int) : go (k + 3) impl_IdOk [(.agg [(.int .i64 (a0)), (.int .i64 (a1)), (.int .i64 (a2))])] = some [.bool (idOk a0 a1 a2)] := by
  rw [qek]
  simp (disch := omega) only [qaw, nth0, nth1, nth2, nth3, bit, qde, qdf, qdq, qdv, qdw, qdx, qdy, qdz, qd0, qd1, qdg, qdh, qdi, qdj, qdk, qdl, qdm, qdn, qdo, qdp, qdr, qds, qdt, qdu, qnn, qnm, qno, qko, qlb, qlc, qhh, qax, qm5, nI, qd7, qd5, Bool.not_true, Bool.not_false, Bool.and_true, Bool.true_and, Bool.and_false, Bool.false_and, Bool.or_true, Bool.true_or, Bool.or_false, Bool.false_or, beq_self_eq_true, dTT, dFF, dT, dF, bigI, big0, qkn, qn7, qn8, List.length_set, List.length_replicate, Int.toNat_natCast, qdc, qdd, imax, imin, qbx, qbq]
  unfold idOk
  cases h1 : inR a0 0 7 <;> cases h2 : inR a1 0 4 <;> simp only [qd7, qd5, Bool.true_and, Bool.false_and, Bool.and_false]
  have := lev0 h2
  have := qla h2
  rw [pw h2, qn7 (x := pow2 a1 - 1) (by omega) (by omega)]
  rw [show decide ((0 : Int) ≤ a1) = true by simp; omega, qd7]
  have e : inR a2 0 (pow2 a1 - 1) = (decide (0 ≤ a2) && decide (a2 < pow2 a1)) := by
    unfold inR; rw [Bool.eq_iff_iff]; simp only [Bool.and_eq_true, decide_eq_true_eq]; omega
  rw [e]
def qn0 (l : Int) : Int := if inR l 0 4 then 16 / pow2 l else 0
theorem qcz (k : Nat) (hk : 2000000 ≤ k) (a : Int) : go (k + 2) spec_WidthOf [(.int .i64 (a))] = some [.int .i64 (qn0 a)] := by
  rw [qgg]
  simp (disch := omega) only [qaw, nth0, nth1, nth2, nth3, bit, qde, qdf, qdq, qdv, qdw, qdx, qdy, qdz, qd0, qd1, qdg, qdh, qdi, qdj, qdk, qdl, qdm, qdn, qdo, qdp, qdr, qds, qdt, qdu, qnn, qnm, qno, qko, qlb, qlc, qhh, qax, qm5, nI, qd7, qd5, Bool.not_true, Bool.not_false, Bool.and_true, Bool.true_and, Bool.and_false, Bool.false_and, Bool.or_true, Bool.true_or, Bool.or_false, Bool.false_or, beq_self_eq_true, dTT, dFF, dT, dF, bigI, big0, qkn, qn7, qn8, List.length_set, List.length_replicate, Int.toNat_natCast, qdc, qdd, imax, imin, qc0, qn0]
  cases h2 : inR a 0 4
  · simp
  · rcases lev h2 with rfl | rfl | rfl | rfl | rfl <;> simp [qn8, sh0, sh1, sh2, sh3, sh4, p20, p21, p22, p23, p24] <;> decide
theorem qbf (k : Nat) (hk : 2000000 ≤ k) (a : Int) : go (k + 3) impl_WidthOf [(.int .i64 (a))] = some [.int .i64 (qn0 a)] := by
  rw [qe4]
  simp (disch := omega) only [qaw, nth0, nth1, nth2, nth3, bit, qde, qdf, qdq, qdv, qdw, qdx, qdy, qdz, qd0, qd1, qdg, qdh, qdi, qdj, qdk, qdl, qdm, qdn, qdo, qdp, qdr, qds, qdt, qdu, qnn, qnm, qno, qko, qlb, qlc, qhh, qax, qm5, nI, qd7, qd5, Bool.not_true, Bool.not_false, Bool.and_true, Bool.true_and, Bool.and_false, Bool.false_and, Bool.or_true, Bool.true_or, Bool.or_false, Bool.false_or, beq_self_eq_true, dTT, dFF, dT, dF, bigI, big0, qkn, qn7, qn8, List.length_set, List.length_replicate, Int.toNat_natCast, qdc, qdd, imax, imin, qbq, qn0]
  cases h2 : inR a 0 4
  · simp
  · rcases lev h2 with rfl | rfl | rfl | rfl | rfl <;> simp [qn8, sh0, sh1, sh2, sh3, sh4, p20, p21, p22, p23, p24] <;> decide
def qm1 (r l i : Int) : Int := if idOk r l i then r * 16 + i * qn0 l else -1
theorem qn2 (l : Int) : 0 ≤ qn0 l ∧ qn0 l ≤ 16 := by
  unfold qn0
  cases h : inR l 0 4
  · simp
  · rcases lev h with rfl | rfl | rfl | rfl | rfl <;> decide
theorem qhe {r l i : Int} (h : idOk r l i = true) : 0 ≤ r ∧ r ≤ 7 ∧ inR l 0 4 = true ∧ 0 ≤ i ∧ i < pow2 l := by
  simp only [idOk, Bool.and_eq_true, decide_eq_true_eq] at h
  obtain ⟨h1, h2, h3, h4⟩ := h
  simp only [inR, Bool.and_eq_true, decide_eq_true_eq] at h1
  exact ⟨h1.1, h1.2, h2, h3, h4⟩
theorem iw {r l i : Int} (h : idOk r l i = true) : 0 ≤ i * qn0 l ∧ i * qn0 l ≤ 256 := by
  obtain ⟨_, _, h2, h3, h4⟩ := qhe h
  have h5 := (qla h2).2
  have h6 := qn2 l
  have h7 : i ≤ 16 := by omega
  refine ⟨Int.mul_nonneg h3 h6.1, ?_⟩
  calc i * qn0 l ≤ 16 * qn0 l := Int.mul_le_mul_of_nonneg_right h7 h6.1
    _ ≤ 16 * 16 := Int.mul_le_mul_of_nonneg_left h6.2 (by omega)
theorem qm2 (r l i : Int) : -1 ≤ qm1 r l i ∧ qm1 r l i ≤ 1000 := by
  unfold qm1
  cases h : idOk r l i
  · simp
  · have := iw h; have := qhe h
    simp; omega
theorem qm3 {r l i : Int} (h : idOk r l i = true) : IntKind.wrap .i64 (IntKind.wrap .i64 (r * (16 : Int)) + IntKind.wrap .i64 (i * qn0 l)) = qm1 r l i := by
  have h1 := iw h; have h2 := qhe h
  rw [qn7 (x := r * 16) (by omega) (by omega), qn7 (x := i * qn0 l) (by omega) (by omega), qn7 (by omega) (by omega)]
  simp [qm1, h]
theorem qcx (k : Nat) (hk : 2000000 ≤ k) (a0 : Int) (a1 : Int) (a2 : Int) : go (k + 3) spec_StartOf [(.agg [(.int .i64 (a0)), (.int .i64 (a1)), (.int .i64 (a2))])] = some [.int .i64 (qm1 a0 a1 a2)] := by
  rw [qge]
  simp (disch := omega) only [qaw, nth0, nth1, nth2, nth3, bit, qde, qdf, qdq, qdv, qdw, qdx, qdy, qdz, qd0, qd1, qdg, qdh, qdi, qdj, qdk, qdl, qdm, qdn, qdo, qdp, qdr, qds, qdt, qdu, qnn, qnm, qno, qko, qlb, qlc, qhh, qax, qm5, nI, qd7, qd5, Bool.not_true, Bool.not_false, Bool.and_true, Bool.true_and, Bool.and_false, Bool.false_and, Bool.or_true, Bool.true_or, Bool.or_false, Bool.false_or, beq_self_eq_true, dTT, dFF, dT, dF, bigI, big0, qkn, qn7, qn8, List.length_set, List.length_replicate, Int.toNat_natCast, qdc, qdd, imax, imin, qcq, qcz]
  cases h : idOk a0 a1 a2
  · simp [qm1, h]
  · rw [qm3 h]; rfl
theorem qbc (k : Nat) (hk : 2000000 ≤ k) (a0 : Int) (a1 : Int) (a2 : Int) : go (k + 4) impl_StartOf [(.agg [(.int .i64 (a0)), (.int .i64 (a1)), (.int .i64 (a2))])] = some [.int .i64 (qm1 a0 a1 a2)] := by
  rw [qeu]
  simp (disch := omega) only [qaw, nth0, nth1, nth2, nth3, bit, qde, qdf, qdq, qdv, qdw, qdx, qdy, qdz, qd0, qd1, qdg, qdh, qdi, qdj, qdk, qdl, qdm, qdn, qdo, qdp, qdr, qds, qdt, qdu, qnn, qnm, qno, qko, qlb, qlc, qhh, qax, qm5, nI, qd7, qd5, Bool.not_true, Bool.not_false, Bool.and_true, Bool.true_and, Bool.and_false, Bool.false_and, Bool.or_true, Bool.true_or, Bool.or_false, Bool.false_or, beq_self_eq_true, dTT, dFF, dT, dF, bigI, big0, qkn, qn7, qn8, List.length_set, List.length_replicate, Int.toNat_natCast, qdc, qdd, imax, imin, qa5, qbf]
  cases h : idOk a0 a1 a2
  · simp [qm1, h]
  · rw [qm3 h]; rfl
theorem qgt (r l i : Int) : IntKind.wrap .i64 (qm1 r l i + qn0 l) = qm1 r l i + qn0 l := by
  have h1 := qm2 r l i; have h2 := qn2 l
  exact qn7 (by omega) (by omega)
theorem qc2 (k : Nat) (hk : 2000000 ≤ k) (a0 : Int) (a1 : Int) (a2 : Int) : go (k + 4) spec_l04End [(.agg [(.int .i64 (a0)), (.int .i64 (a1)), (.int .i64 (a2))])] = some [.int .i64 (qm1 a0 a1 a2 + qn0 a1)] := by
  rw [qgj]
  simp (disch := omega) only [qaw, nth0, nth1, nth2, nth3, bit, qde, qdf, qdq, qdv, qdw, qdx, qdy, qdz, qd0, qd1, qdg, qdh, qdi, qdj, qdk, qdl, qdm, qdn, qdo, qdp, qdr, qds, qdt, qdu, qnn, qnm, qno, qko, qlb, qlc, qhh, qax, qm5, nI, qd7, qd5, Bool.not_true, Bool.not_false, Bool.and_true, Bool.true_and, Bool.and_false, Bool.false_and, Bool.or_true, Bool.true_or, Bool.or_false, Bool.false_or, beq_self_eq_true, dTT, dFF, dT, dF, bigI, big0, qkn, qn7, qn8, List.length_set, List.length_replicate, Int.toNat_natCast, qdc, qdd, imax, imin, qcx, qcz, qgt]
theorem qbk (k : Nat) (hk : 2000000 ≤ k) (a0 : Int) (a1 : Int) (a2 : Int) : go (k + 5) impl_endOf [(.agg [(.int .i64 (a0)), (.int .i64 (a1)), (.int .i64 (a2))])] = some [.int .i64 (qm1 a0 a1 a2 + qn0 a1)] := by
  rw [qe8]
  simp (disch := omega) only [qaw, nth0, nth1, nth2, nth3, bit, qde, qdf, qdq, qdv, qdw, qdx, qdy, qdz, qd0, qd1, qdg, qdh, qdi, qdj, qdk, qdl, qdm, qdn, qdo, qdp, qdr, qds, qdt, qdu, qnn, qnm, qno, qko, qlb, qlc, qhh, qax, qm5, nI, qd7, qd5, Bool.not_true, Bool.not_false, Bool.and_true, Bool.true_and, Bool.and_false, Bool.false_and, Bool.or_true, Bool.true_or, Bool.or_false, Bool.false_or, beq_self_eq_true, dTT, dFF, dT, dF, bigI, big0, qkn, qn7, qn8, List.length_set, List.length_replicate, Int.toNat_natCast, qdc, qdd, imax, imin, qbc, qbf, qgt]
abbrev Cell := Int × Int × Int
def qjz (roots : Int) : Int → List Cell → Bool
  | pos, [] => inR roots 1 8 && decide (pos = roots * 16)
  | pos, x :: rest => idOk x.1 x.2.1 x.2.2 && (decide (qm1 x.1 x.2.1 x.2.2 = pos) && qjz roots (qm1 x.1 x.2.1 x.2.2 + qn0 x.2.1) rest)
theorem qj0 (roots pos : Int) : cond (inR roots 1 8) (some [D.bool (decide (pos = IntKind.wrap .i64 (roots * (16 : Int))))]) (some [D.bool false]) = some [D.bool (qjz roots pos [])] := by
  unfold qjz
  cases h : inR roots 1 8
  · rfl
  · simp only [inR, Bool.and_eq_true, decide_eq_true_eq] at h
    rw [qn7 (by omega) (by omega)]; rfl
theorem qje (k : Nat) (hk : 2000000 ≤ k) (fu : List (Nat × Nat)) (z : Bool) (l : List Cell) (roots : Int) (hl : (l.length : Int) ≤ 1048576) : ∀ (n i : Nat) (pos : Int), i ≤ l.length → l.length - i < n →
    lp (k + 4) spec_MeshOk [] fu 3 (n) (qmd pos (i : Int) z l roots) = some [.bool (qjz roots pos (l.drop i))]
  | 0, i, pos, hi, hn => by omega
  | n + 1, i, pos, hi, hn => by
    rw [qh9]
    by_cases h : i < l.length
    · rw [qeb h zz3]
      simp (disch := omega) only [qaw, nth0, nth1, nth2, nth3, bit, qde, qdf, qdq, qdv, qdw, qdx, qdy, qdz, qd0, qd1, qdg, qdh, qdi, qdj, qdk, qdl, qdm, qdn, qdo, qdp, qdr, qds, qdt, qdu, qnn, qnm, qno, qko, qlb, qlc, qhh, qax, qm5, nI, qd7, qd5, Bool.not_true, Bool.not_false, Bool.and_true, Bool.true_and, Bool.and_false, Bool.false_and, Bool.or_true, Bool.true_or, Bool.or_false, Bool.false_or, beq_self_eq_true, dTT, dFF, dT, dF, bigI, big0, qkn, qn7, qn8, List.length_set, List.length_replicate, Int.toNat_natCast, qdc, qdd, imax, imin, qcq, qcx, qc2, qjz]
      rw [qje k hk fu z l roots hl n (i + 1) _ (by omega) (by omega)]
      simp only [qd8, qd9, Bool.and_assoc]
    · rw [List.drop_of_length_le (by omega)]
      simp (disch := omega) only [qaw, nth0, nth1, nth2, nth3, bit, qde, qdf, qdq, qdv, qdw, qdx, qdy, qdz, qd0, qd1, qdg, qdh, qdi, qdj, qdk, qdl, qdm, qdn, qdo, qdp, qdr, qds, qdt, qdu, qnn, qnm, qno, qko, qlb, qlc, qhh, qax, qm5, nI, qd7, qd5, Bool.not_true, Bool.not_false, Bool.and_true, Bool.true_and, Bool.and_false, Bool.false_and, Bool.or_true, Bool.true_or, Bool.or_false, Bool.false_or, beq_self_eq_true, dTT, dFF, dT, dF, bigI, big0, qkn, qn7, qn8, List.length_set, List.length_replicate, Int.toNat_natCast, qdc, qdd, imax, imin, qc0]
      exact qj0 roots pos
theorem qcu (k : Nat) (hk : 2000000 ≤ k) (a0 : Int) (a1z : Bool) (a1 : List (Int × Int × Int)) (hl : (a1.length : Int) ≤ 1048576) : go (k + 5) spec_MeshOk [(.agg [(.int .i64 (a0)), (.arr false (a1z) (.r3 (a1)))])] = some [.bool (qjz a0 0 a1)] := by
  rw [qgb]
  exact qje k hk _ _ a1 a0 hl _ 0 0 (by omega) (by omega)
theorem qiw (k : Nat) (hk : 2000000 ≤ k) (fu : List (Nat × Nat)) (z : Bool) (l : List Cell) (roots : Int) (hl : (l.length : Int) ≤ 1048576) : ∀ (n i : Nat) (pos : Int), i ≤ l.length → l.length - i < n →
    lp (k + 5) impl_MeshOk [] fu 3 (n) (qlr pos (l.length : Int) (i : Int) z l roots) = some [.bool (qjz roots pos (l.drop i))]
  | 0, i, pos, hi, hn => by omega
  | n + 1, i, pos, hi, hn => by
    rw [qhn]
    by_cases h : i < l.length
    · rw [qeb h zz3]
      simp (disch := omega) only [qaw, nth0, nth1, nth2, nth3, bit, qde, qdf, qdq, qdv, qdw, qdx, qdy, qdz, qd0, qd1, qdg, qdh, qdi, qdj, qdk, qdl, qdm, qdn, qdo, qdp, qdr, qds, qdt, qdu, qnn, qnm, qno, qko, qlb, qlc, qhh, qax, qm5, nI, qd7, qd5, Bool.not_true, Bool.not_false, Bool.and_true, Bool.true_and, Bool.and_false, Bool.false_and, Bool.or_true, Bool.true_or, Bool.or_false, Bool.false_or, beq_self_eq_true, dTT, dFF, dT, dF, bigI, big0, qkn, qn7, qn8, List.length_set, List.length_replicate, Int.toNat_natCast, qdc, qdd, imax, imin, qa5, qbc, qbk, qjz]
      rw [qiw k hk fu z l roots hl n (i + 1) _ (by omega) (by omega)]
      simp only [qd8, qd9, Bool.and_assoc]
    · rw [List.drop_of_length_le (by omega)]
      simp (disch := omega) only [qaw, nth0, nth1, nth2, nth3, bit, qde, qdf, qdq, qdv, qdw, qdx, qdy, qdz, qd0, qd1, qdg, qdh, qdi, qdj, qdk, qdl, qdm, qdn, qdo, qdp, qdr, qds, qdt, qdu, qnn, qnm, qno, qko, qlb, qlc, qhh, qax, qm5, nI, qd7, qd5, Bool.not_true, Bool.not_false, Bool.and_true, Bool.true_and, Bool.and_false, Bool.false_and, Bool.or_true, Bool.true_or, Bool.or_false, Bool.false_or, beq_self_eq_true, dTT, dFF, dT, dF, bigI, big0, qkn, qn7, qn8, List.length_set, List.length_replicate, Int.toNat_natCast, qdc, qdd, imax, imin, qbx]
      exact qj0 roots pos
theorem qa9 (k : Nat) (hk : 2000000 ≤ k) (a0 : Int) (a1z : Bool) (a1 : List (Int × Int × Int)) (hl : (a1.length : Int) ≤ 1048576) : go (k + 6) impl_MeshOk [(.agg [(.int .i64 (a0)), (.arr false (a1z) (.r3 (a1)))])] = some [.bool (qjz a0 0 a1)] := by
  rw [qeo]
  exact qiw k hk _ _ a1 a0 hl _ 0 0 (by omega) (by omega)
theorem qg5 (r n : Nat) (fu : List (Nat × Nat)) : fuelOf ((r, n) :: fu) r = n := by simp [fuelOf, find]
end Go.Proofs.Ytcaapedadpnjoaa
end
section
namespace Go.Proofs.Ytcaapedadpnjoaa
open Go.Ev
theorem qmt {α : Type} (l o : List α) (i : Nat) (d : α) (h : i < l.length) (ho : o.length = l.length) : (o.set i (l.getD i d)).take (i + 1) ++ l.drop (i + 1) = o.take i ++ l.drop i := by
  rw [qeb h d]
  have : (o.set i (l.getD i d)).take (i + 1) = o.take i ++ [l.getD i d] := by
    rw [List.take_succ_eq_append_getElem (by simp; omega)]
    simp [List.take_set_of_le]
  rw [this]; simp
theorem qcf (k : Nat) (hk : 2000000 ≤ k) (a0 : Int) (a1 : Int) (a2 : Int) : go (k + 1) laws_toId [(.agg [(.int .i64 (a0)), (.int .i64 (a1)), (.int .i64 (a2))])] = some [.agg [.int .i64 a0, .int .i64 a1, .int .i64 a2]] := by rw [qfu]
theorem qi8 (k : Nat) (hk : 2000000 ≤ k) (fu : List (Nat × Nat)) (z z' : Bool) (l : List Cell) (hl : (l.length : Int) ≤ 1048576) : ∀ (n i : Nat) (o : List Cell), i ≤ l.length → o.length = l.length → l.length - i < n →
    lp (k + 1) laws_toIdS [] fu 3 (n) (ql8 (i : Int) z l z' o) = some [.arr true z' (.r3 (o.take i ++ l.drop i))]
  | 0, i, o, hi, ho, hn => by omega
  | n + 1, i, o, hi, ho, hn => by
    rw [qh4]
    by_cases h : i < l.length
    · simp (disch := omega) only [qaw, nth0, nth1, nth2, nth3, bit, qde, qdf, qdq, qdv, qdw, qdx, qdy, qdz, qd0, qd1, qdg, qdh, qdi, qdj, qdk, qdl, qdm, qdn, qdo, qdp, qdr, qds, qdt, qdu, qnn, qnm, qno, qko, qlb, qlc, qhh, qax, qm5, nI, qd7, qd5, Bool.not_true, Bool.not_false, Bool.and_true, Bool.true_and, Bool.and_false, Bool.false_and, Bool.or_true, Bool.true_or, Bool.or_false, Bool.false_or, beq_self_eq_true, dTT, dFF, dT, dF, bigI, big0, qkn, qn7, qn8, List.length_set, List.length_replicate, Int.toNat_natCast, qdc, qdd, imax, imin, qcf]
      rw [qi8 k hk fu z z' l hl n (i + 1) _ (by omega) (by simp [ho]) (by omega)]
      exact congrArg (fun x => some [D.arr true z' (.r3 x)]) (qmt l o i zz3 h ho)
    · simp (disch := omega) only [qaw, nth0, nth1, nth2, nth3, bit, qde, qdf, qdq, qdv, qdw, qdx, qdy, qdz, qd0, qd1, qdg, qdh, qdi, qdj, qdk, qdl, qdm, qdn, qdo, qdp, qdr, qds, qdt, qdu, qnn, qnm, qno, qko, qlb, qlc, qhh, qax, qm5, nI, qd7, qd5, Bool.not_true, Bool.not_false, Bool.and_true, Bool.true_and, Bool.and_false, Bool.false_and, Bool.or_true, Bool.true_or, Bool.or_false, Bool.false_or, beq_self_eq_true, dTT, dFF, dT, dF, bigI, big0, qkn, qn7, qn8, List.length_set, List.length_replicate, Int.toNat_natCast, qdc, qdd, imax, imin]
      have hil : i = l.length := by omega
      rw [hil, List.drop_length, List.append_nil, List.take_of_length_le (by omega)]
theorem qcg (k : Nat) (hk : 2000000 ≤ k) (az : Bool) (a : List (Int × Int × Int)) (hl : (a.length : Int) ≤ 1048576) : go (k + 2) laws_toIdS [(.arr false (az) (.r3 (a)))] = some [.arr true false (.r3 a)] := by
  rw [qfv]
  simp (disch := omega) only [qaw, nth0, nth1, nth2, nth3, bit, qde, qdf, qdq, qdv, qdw, qdx, qdy, qdz, qd0, qd1, qdg, qdh, qdi, qdj, qdk, qdl, qdm, qdn, qdo, qdp, qdr, qds, qdt, qdu, qnn, qnm, qno, qko, qlb, qlc, qhh, qax, qm5, nI, qd7, qd5, Bool.not_true, Bool.not_false, Bool.and_true, Bool.true_and, Bool.and_false, Bool.false_and, Bool.or_true, Bool.true_or, Bool.or_false, Bool.false_or, beq_self_eq_true, dTT, dFF, dT, dF, bigI, big0, qkn, qn7, qn8, List.length_set, List.length_replicate, Int.toNat_natCast, qdc, qdd, imax, imin]
  refine Eq.trans (qi8 k hk [] az false a hl _ 0 (List.replicate a.length zz3) (by omega) (by simp) (by omega)) ?_
  simp
theorem qci (k : Nat) (hk : 2000000 ≤ k) (a0 : Int) (a1z : Bool) (a1 : List (Int × Int × Int)) (hl : (a1.length : Int) ≤ 1048576) : go (k + 3) laws_toMesh [(.agg [(.int .i64 (a0)), (.arr false (a1z) (.r3 (a1)))])] = some [.agg [.int .i64 a0, .arr true false (.r3 a1)]] := by
  rw [qfx]
  simp (disch := omega) only [qaw, nth0, nth1, nth2, nth3, bit, qde, qdf, qdq, qdv, qdw, qdx, qdy, qdz, qd0, qd1, qdg, qdh, qdi, qdj, qdk, qdl, qdm, qdn, qdo, qdp, qdr, qds, qdt, qdu, qnn, qnm, qno, qko, qlb, qlc, qhh, qax, qm5, nI, qd7, qd5, Bool.not_true, Bool.not_false, Bool.and_true, Bool.true_and, Bool.and_false, Bool.false_and, Bool.or_true, Bool.true_or, Bool.or_false, Bool.false_or, beq_self_eq_true, dTT, dFF, dT, dF, bigI, big0, qkn, qn7, qn8, List.length_set, List.length_replicate, Int.toNat_natCast, qdc, qdd, imax, imin, qcg]
theorem qca (k : Nat) (hk : 2000000 ≤ k) (az : Bool) (a : List (Int × Int × Int)) (b : Int) (hl : (a.length : Int) ≤ 9223372036854775807) (hb : 0 ≤ b) (hb' : b ≤ 1048576) : go (k + 1) laws_szIdS [(.arr false (az) (.r3 (a))), (.int .i64 (b))] = some [.int .i64 (if (a.length : Int) ≤ b then b - a.length else -1)] := by
  rw [qfp]
  by_cases h : (a.length : Int) ≤ b
  · simp (disch := omega) only [qaw, nth0, nth1, nth2, nth3, bit, qde, qdf, qdq, qdv, qdw, qdx, qdy, qdz, qd0, qd1, qdg, qdh, qdi, qdj, qdk, qdl, qdm, qdn, qdo, qdp, qdr, qds, qdt, qdu, qnn, qnm, qno, qko, qlb, qlc, qhh, qax, qm5, nI, qd7, qd5, Bool.not_true, Bool.not_false, Bool.and_true, Bool.true_and, Bool.and_false, Bool.false_and, Bool.or_true, Bool.true_or, Bool.or_false, Bool.false_or, beq_self_eq_true, dTT, dFF, dT, dF, bigI, big0, qkn, qn7, qn8, List.length_set, List.length_replicate, Int.toNat_natCast, qdc, qdd, imax, imin, if_pos h]
  · simp (disch := omega) only [qaw, nth0, nth1, nth2, nth3, bit, qde, qdf, qdq, qdv, qdw, qdx, qdy, qdz, qd0, qd1, qdg, qdh, qdi, qdj, qdk, qdl, qdm, qdn, qdo, qdp, qdr, qds, qdt, qdu, qnn, qnm, qno, qko, qlb, qlc, qhh, qax, qm5, nI, qd7, qd5, Bool.not_true, Bool.not_false, Bool.and_true, Bool.true_and, Bool.and_false, Bool.false_and, Bool.or_true, Bool.true_or, Bool.or_false, Bool.false_or, beq_self_eq_true, dTT, dFF, dT, dF, bigI, big0, qkn, qn7, qn8, List.length_set, List.length_replicate, Int.toNat_natCast, qdc, qdd, imax, imin, if_neg h]
theorem qcc (k : Nat) (hk : 2000000 ≤ k) (a0 : Int) (a1z : Bool) (a1 : List (Int × Int × Int)) (b : Int) (hl : (a1.length : Int) ≤ 9223372036854775807) (hb : 0 ≤ b) (hb' : b ≤ 1048576) : go (k + 2) laws_szMesh [(.agg [(.int .i64 (a0)), (.arr false (a1z) (.r3 (a1)))]), (.int .i64 (b))] = some [.int .i64 (if (a1.length : Int) ≤ b then b - a1.length else -1)] := by
  rw [qfr]
  simp (disch := omega) only [qaw, nth0, nth1, nth2, nth3, bit, qde, qdf, qdq, qdv, qdw, qdx, qdy, qdz, qd0, qd1, qdg, qdh, qdi, qdj, qdk, qdl, qdm, qdn, qdo, qdp, qdr, qds, qdt, qdu, qnn, qnm, qno, qko, qlb, qlc, qhh, qax, qm5, nI, qd7, qd5, Bool.not_true, Bool.not_false, Bool.and_true, Bool.true_and, Bool.and_false, Bool.false_and, Bool.or_true, Bool.true_or, Bool.or_false, Bool.false_or, beq_self_eq_true, dTT, dFF, dT, dF, bigI, big0, qkn, qn7, qn8, List.length_set, List.length_replicate, Int.toNat_natCast, qdc, qdd, imax, imin, qca]
  by_cases h : (a1.length : Int) ≤ b
  · simp (disch := omega) only [qaw, nth0, nth1, nth2, nth3, bit, qde, qdf, qdq, qdv, qdw, qdx, qdy, qdz, qd0, qd1, qdg, qdh, qdi, qdj, qdk, qdl, qdm, qdn, qdo, qdp, qdr, qds, qdt, qdu, qnn, qnm, qno, qko, qlb, qlc, qhh, qax, qm5, nI, qd7, qd5, Bool.not_true, Bool.not_false, Bool.and_true, Bool.true_and, Bool.and_false, Bool.false_and, Bool.or_true, Bool.true_or, Bool.or_false, Bool.false_or, beq_self_eq_true, dTT, dFF, dT, dF, bigI, big0, qkn, qn7, qn8, List.length_set, List.length_replicate, Int.toNat_natCast, qdc, qdd, imax, imin, if_pos h]
  · simp (disch := omega) only [qaw, nth0, nth1, nth2, nth3, bit, qde, qdf, qdq, qdv, qdw, qdx, qdy, qdz, qd0, qd1, qdg, qdh, qdi, qdj, qdk, qdl, qdm, qdn, qdo, qdp, qdr, qds, qdt, qdu, qnn, qnm, qno, qko, qlb, qlc, qhh, qax, qm5, nI, qd7, qd5, Bool.not_true, Bool.not_false, Bool.and_true, Bool.true_and, Bool.and_false, Bool.false_and, Bool.or_true, Bool.true_or, Bool.or_false, Bool.false_or, beq_self_eq_true, dTT, dFF, dT, dF, bigI, big0, qkn, qn7, qn8, List.length_set, List.length_replicate, Int.toNat_natCast, qdc, qdd, imax, imin, if_neg h]
theorem qby (k : Nat) (hk : 2000000 ≤ k) (a b c : Int) : go (k + 1) laws_eqId [.agg [.int .i64 a, .int .i64 b, .int .i64 c], .agg [.int .i64 a, .int .i64 b, .int .i64 c]] = some [.bool true] := by
  rw [qfe]; simp
theorem qi1 (k : Nat) (hk : 2000000 ≤ k) (fu : List (Nat × Nat)) (z z' : Bool) (l : List Cell) (hl : (l.length : Int) ≤ 1048576) : ∀ (n i : Nat), i ≤ l.length → l.length - i < n →
    lp (k + 1) laws_eqIdS [] fu 4 (n) (qlz (i : Int) z l z' l) = some [.bool true]
  | 0, i, hi, hn => by omega
  | n + 1, i, hi, hn => by
    rw [qhv]
    by_cases h : i < l.length
    · simp (disch := omega) only [qaw, nth0, nth1, nth2, nth3, bit, qde, qdf, qdq, qdv, qdw, qdx, qdy, qdz, qd0, qd1, qdg, qdh, qdi, qdj, qdk, qdl, qdm, qdn, qdo, qdp, qdr, qds, qdt, qdu, qnn, qnm, qno, qko, qlb, qlc, qhh, qax, qm5, nI, qd7, qd5, Bool.not_true, Bool.not_false, Bool.and_true, Bool.true_and, Bool.and_false, Bool.false_and, Bool.or_true, Bool.true_or, Bool.or_false, Bool.false_or, beq_self_eq_true, dTT, dFF, dT, dF, bigI, big0, qkn, qn7, qn8, List.length_set, List.length_replicate, Int.toNat_natCast, qdc, qdd, imax, imin, qby]
      exact qi1 k hk fu z z' l hl n (i + 1) (by omega) (by omega)
    · simp (disch := omega) only [qaw, nth0, nth1, nth2, nth3, bit, qde, qdf, qdq, qdv, qdw, qdx, qdy, qdz, qd0, qd1, qdg, qdh, qdi, qdj, qdk, qdl, qdm, qdn, qdo, qdp, qdr, qds, qdt, qdu, qnn, qnm, qno, qko, qlb, qlc, qhh, qax, qm5, nI, qd7, qd5, Bool.not_true, Bool.not_false, Bool.and_true, Bool.true_and, Bool.and_false, Bool.false_and, Bool.or_true, Bool.true_or, Bool.or_false, Bool.false_or, beq_self_eq_true, dTT, dFF, dT, dF, bigI, big0, qkn, qn7, qn8, List.length_set, List.length_replicate, Int.toNat_natCast, qdc, qdd, imax, imin]
theorem qbz (k : Nat) (hk : 2000000 ≤ k) (z z' : Bool) (l : List Cell) (hl : (l.length : Int) ≤ 1048576) : go (k + 2) laws_eqIdS [.arr false z (.r3 l), .arr false z' (.r3 l)] = some [.bool true] := by
  rw [qff]
  simp (disch := omega) only [qaw, nth0, nth1, nth2, nth3, bit, qde, qdf, qdq, qdv, qdw, qdx, qdy, qdz, qd0, qd1, qdg, qdh, qdi, qdj, qdk, qdl, qdm, qdn, qdo, qdp, qdr, qds, qdt, qdu, qnn, qnm, qno, qko, qlb, qlc, qhh, qax, qm5, nI, qd7, qd5, Bool.not_true, Bool.not_false, Bool.and_true, Bool.true_and, Bool.and_false, Bool.false_and, Bool.or_true, Bool.true_or, Bool.or_false, Bool.false_or, beq_self_eq_true, dTT, dFF, dT, dF, bigI, big0, qkn, qn7, qn8, List.length_set, List.length_replicate, Int.toNat_natCast, qdc, qdd, imax, imin]
  exact qi1 k hk [] z z' l hl _ 0 (by omega) (by omega)
theorem qb1 (k : Nat) (hk : 2000000 ≤ k) (roots : Int) (z z' : Bool) (l : List Cell) (hl : (l.length : Int) ≤ 1048576) : go (k + 3) laws_eqMesh [.agg [.int .i64 roots, .arr false z (.r3 l)], .agg [.int .i64 roots, .arr false z' (.r3 l)]] = some [.bool true] := by
  rw [qfh]
  simp (disch := omega) only [qaw, nth0, nth1, nth2, nth3, bit, qde, qdf, qdq, qdv, qdw, qdx, qdy, qdz, qd0, qd1, qdg, qdh, qdi, qdj, qdk, qdl, qdm, qdn, qdo, qdp, qdr, qds, qdt, qdu, qnn, qnm, qno, qko, qlb, qlc, qhh, qax, qm5, nI, qd7, qd5, Bool.not_true, Bool.not_false, Bool.and_true, Bool.true_and, Bool.and_false, Bool.false_and, Bool.or_true, Bool.true_or, Bool.or_false, Bool.false_or, beq_self_eq_true, dTT, dFF, dT, dF, bigI, big0, qkn, qn7, qn8, List.length_set, List.length_replicate, Int.toNat_natCast, qdc, qdd, imax, imin, qbz]
theorem qi9 (k : Nat) (hk : 2000000 ≤ k) (fu : List (Nat × Nat)) (z z' : Bool) (l : List Int) (hl : (l.length : Int) ≤ 1048576) : ∀ (n i : Nat) (o : List Int), i ≤ l.length → o.length = l.length → l.length - i < n →
    lp k laws_toIntS [] fu 3 (n) (ql9 (i : Int) z l z' o) = some [.arr true z' (.ints .i64 (o.take i ++ l.drop i))]
  | 0, i, o, hi, ho, hn => by omega
  | n + 1, i, o, hi, ho, hn => by
    rw [qh5]
    by_cases h : i < l.length
    · simp (disch := omega) only [qaw, nth0, nth1, nth2, nth3, bit, qde, qdf, qdq, qdv, qdw, qdx, qdy, qdz, qd0, qd1, qdg, qdh, qdi, qdj, qdk, qdl, qdm, qdn, qdo, qdp, qdr, qds, qdt, qdu, qnn, qnm, qno, qko, qlb, qlc, qhh, qax, qm5, nI, qd7, qd5, Bool.not_true, Bool.not_false, Bool.and_true, Bool.true_and, Bool.and_false, Bool.false_and, Bool.or_true, Bool.true_or, Bool.or_false, Bool.false_or, beq_self_eq_true, dTT, dFF, dT, dF, bigI, big0, qkn, qn7, qn8, List.length_set, List.length_replicate, Int.toNat_natCast, qdc, qdd, imax, imin]
      rw [qi9 k hk fu z z' l hl n (i + 1) _ (by omega) (by simp [ho]) (by omega)]
      exact congrArg (fun x => some [D.arr true z' (.ints .i64 x)]) (qmt l o i 0 h ho)
    · simp (disch := omega) only [qaw, nth0, nth1, nth2, nth3, bit, qde, qdf, qdq, qdv, qdw, qdx, qdy, qdz, qd0, qd1, qdg, qdh, qdi, qdj, qdk, qdl, qdm, qdn, qdo, qdp, qdr, qds, qdt, qdu, qnn, qnm, qno, qko, qlb, qlc, qhh, qax, qm5, nI, qd7, qd5, Bool.not_true, Bool.not_false, Bool.and_true, Bool.true_and, Bool.and_false, Bool.false_and, Bool.or_true, Bool.true_or, Bool.or_false, Bool.false_or, beq_self_eq_true, dTT, dFF, dT, dF, bigI, big0, qkn, qn7, qn8, List.length_set, List.length_replicate, Int.toNat_natCast, qdc, qdd, imax, imin]
      have hil : i = l.length := by omega
      rw [hil, List.drop_length, List.append_nil, List.take_of_length_le (by omega)]
theorem qch (k : Nat) (hk : 2000000 ≤ k) (az : Bool) (a : List Int) (hl : (a.length : Int) ≤ 1048576) : go (k + 1) laws_toIntS [(.arr false (az) (.ints .i64 (a)))] = some [.arr true false (.ints .i64 a)] := by
  rw [qfw]
  simp (disch := omega) only [qaw, nth0, nth1, nth2, nth3, bit, qde, qdf, qdq, qdv, qdw, qdx, qdy, qdz, qd0, qd1, qdg, qdh, qdi, qdj, qdk, qdl, qdm, qdn, qdo, qdp, qdr, qds, qdt, qdu, qnn, qnm, qno, qko, qlb, qlc, qhh, qax, qm5, nI, qd7, qd5, Bool.not_true, Bool.not_false, Bool.and_true, Bool.true_and, Bool.and_false, Bool.false_and, Bool.or_true, Bool.true_or, Bool.or_false, Bool.false_or, beq_self_eq_true, dTT, dFF, dT, dF, bigI, big0, qkn, qn7, qn8, List.length_set, List.length_replicate, Int.toNat_natCast, qdc, qdd, imax, imin]
  refine Eq.trans (qi9 k hk [] az false a hl _ 0 (List.replicate a.length 0) (by omega) (by simp) (by omega)) ?_
  simp
theorem qcb (k : Nat) (hk : 2000000 ≤ k) (az : Bool) (a : List Int) (b : Int) (hl : (a.length : Int) ≤ 9223372036854775807) (hb : 0 ≤ b) (hb' : b ≤ 1048576) : go (k + 1) laws_szIntS [(.arr false (az) (.ints .i64 (a))), (.int .i64 (b))] = some [.int .i64 (if (a.length : Int) ≤ b then b - a.length else -1)] := by
  rw [qfq]
  by_cases h : (a.length : Int) ≤ b
  · simp (disch := omega) only [qaw, nth0, nth1, nth2, nth3, bit, qde, qdf, qdq, qdv, qdw, qdx, qdy, qdz, qd0, qd1, qdg, qdh, qdi, qdj, qdk, qdl, qdm, qdn, qdo, qdp, qdr, qds, qdt, qdu, qnn, qnm, qno, qko, qlb, qlc, qhh, qax, qm5, nI, qd7, qd5, Bool.not_true, Bool.not_false, Bool.and_true, Bool.true_and, Bool.and_false, Bool.false_and, Bool.or_true, Bool.true_or, Bool.or_false, Bool.false_or, beq_self_eq_true, dTT, dFF, dT, dF, bigI, big0, qkn, qn7, qn8, List.length_set, List.length_replicate, Int.toNat_natCast, qdc, qdd, imax, imin, if_pos h]
  · simp (disch := omega) only [qaw, nth0, nth1, nth2, nth3, bit, qde, qdf, qdq, qdv, qdw, qdx, qdy, qdz, qd0, qd1, qdg, qdh, qdi, qdj, qdk, qdl, qdm, qdn, qdo, qdp, qdr, qds, qdt, qdu, qnn, qnm, qno, qko, qlb, qlc, qhh, qax, qm5, nI, qd7, qd5, Bool.not_true, Bool.not_false, Bool.and_true, Bool.true_and, Bool.and_false, Bool.false_and, Bool.or_true, Bool.true_or, Bool.or_false, Bool.false_or, beq_self_eq_true, dTT, dFF, dT, dF, bigI, big0, qkn, qn7, qn8, List.length_set, List.length_replicate, Int.toNat_natCast, qdc, qdd, imax, imin, if_neg h]
theorem qi2 (k : Nat) (hk : 2000000 ≤ k) (fu : List (Nat × Nat)) (z z' : Bool) (l : List Int) (hl : (l.length : Int) ≤ 1048576) : ∀ (n i : Nat), i ≤ l.length → l.length - i < n →
    lp k laws_eqIntS [] fu 4 (n) (ql0 (i : Int) z l z' l) = some [.bool true]
  | 0, i, hi, hn => by omega
  | n + 1, i, hi, hn => by
    rw [qhw]
    by_cases h : i < l.length
    · simp (disch := omega) only [qaw, nth0, nth1, nth2, nth3, bit, qde, qdf, qdq, qdv, qdw, qdx, qdy, qdz, qd0, qd1, qdg, qdh, qdi, qdj, qdk, qdl, qdm, qdn, qdo, qdp, qdr, qds, qdt, qdu, qnn, qnm, qno, qko, qlb, qlc, qhh, qax, qm5, nI, qd7, qd5, Bool.not_true, Bool.not_false, Bool.and_true, Bool.true_and, Bool.and_false, Bool.false_and, Bool.or_true, Bool.true_or, Bool.or_false, Bool.false_or, beq_self_eq_true, dTT, dFF, dT, dF, bigI, big0, qkn, qn7, qn8, List.length_set, List.length_replicate, Int.toNat_natCast, qdc, qdd, imax, imin]
      exact qi2 k hk fu z z' l hl n (i + 1) (by omega) (by omega)
    · simp (disch := omega) only [qaw, nth0, nth1, nth2, nth3, bit, qde, qdf, qdq, qdv, qdw, qdx, qdy, qdz, qd0, qd1, qdg, qdh, qdi, qdj, qdk, qdl, qdm, qdn, qdo, qdp, qdr, qds, qdt, qdu, qnn, qnm, qno, qko, qlb, qlc, qhh, qax, qm5, nI, qd7, qd5, Bool.not_true, Bool.not_false, Bool.and_true, Bool.true_and, Bool.and_false, Bool.false_and, Bool.or_true, Bool.true_or, Bool.or_false, Bool.false_or, beq_self_eq_true, dTT, dFF, dT, dF, bigI, big0, qkn, qn7, qn8, List.length_set, List.length_replicate, Int.toNat_natCast, qdc, qdd, imax, imin]
theorem qb0 (k : Nat) (hk : 2000000 ≤ k) (z z' : Bool) (l : List Int) (hl : (l.length : Int) ≤ 1048576) : go (k + 1) laws_eqIntS [.arr false z (.ints .i64 l), .arr false z' (.ints .i64 l)] = some [.bool true] := by
  rw [qfg]
  simp (disch := omega) only [qaw, nth0, nth1, nth2, nth3, bit, qde, qdf, qdq, qdv, qdw, qdx, qdy, qdz, qd0, qd1, qdg, qdh, qdi, qdj, qdk, qdl, qdm, qdn, qdo, qdp, qdr, qds, qdt, qdu, qnn, qnm, qno, qko, qlb, qlc, qhh, qax, qm5, nI, qd7, qd5, Bool.not_true, Bool.not_false, Bool.and_true, Bool.true_and, Bool.and_false, Bool.false_and, Bool.or_true, Bool.true_or, Bool.or_false, Bool.false_or, beq_self_eq_true, dTT, dFF, dT, dF, bigI, big0, qkn, qn7, qn8, List.length_set, List.length_replicate, Int.toNat_natCast, qdc, qdd, imax, imin]
  exact qi2 k hk [] z z' l hl _ 0 (by omega) (by omega)
theorem qi5 (k : Nat) (hk : 2000000 ≤ k) (fu : List (Nat × Nat)) (az : Bool) (a : List Cell) (z : Bool) (L : Nat) (hl : (L : Int) ≤ 1048576) : ∀ (n i : Nat) (l : List Cell) (b : Int), l.length = L → i ≤ L → 0 ≤ b → b ≤ 8796093022208 + 3 * i → L - i < n →
    ∃ l', lp k laws_markIdS [(.arr true (az) (.r3 (a)))] fu 2 (n) (ql5 b (i : Int) z l) = some [.int .i64 (b + 3 * (L - i : Nat)), .arr true z (.r3 l')]
  | 0, i, l, b, hL, hi, h0, hb, hn => by omega
  | n + 1, i, l, b, hL, hi, h0, hb, hn => by
    rw [qh1]
    by_cases h : i < L
    · simp (disch := omega) only [qaw, nth0, nth1, nth2, nth3, bit, qde, qdf, qdq, qdv, qdw, qdx, qdy, qdz, qd0, qd1, qdg, qdh, qdi, qdj, qdk, qdl, qdm, qdn, qdo, qdp, qdr, qds, qdt, qdu, qnn, qnm, qno, qko, qlb, qlc, qhh, qax, qm5, nI, qd7, qd5, Bool.not_true, Bool.not_false, Bool.and_true, Bool.true_and, Bool.and_false, Bool.false_and, Bool.or_true, Bool.true_or, Bool.or_false, Bool.false_or, beq_self_eq_true, dTT, dFF, dT, dF, bigI, big0, qkn, qn7, qn8, List.length_set, List.length_replicate, Int.toNat_natCast, qdc, qdd, imax, imin]
      obtain ⟨l', e⟩ := qi5 k hk fu az a z L hl n (i + 1) (List.set (List.set (List.set l i (b, Prod.fst (Prod.snd (List.getD l i zz3)), Prod.snd (Prod.snd (List.getD l i zz3)))) i (Prod.fst (List.getD (List.set l i (b, Prod.fst (Prod.snd (List.getD l i zz3)), Prod.snd (Prod.snd (List.getD l i zz3)))) i zz3), b + 1, Prod.snd (Prod.snd (List.getD (List.set l i (b, Prod.fst (Prod.snd (List.getD l i zz3)), Prod.snd (Prod.snd (List.getD l i zz3)))) i zz3)))) i (Prod.fst (List.getD (List.set (List.set l i (b, Prod.fst (Prod.snd (List.getD l i zz3)), Prod.snd (Prod.snd (List.getD l i zz3)))) i (Prod.fst (List.getD (List.set l i (b, Prod.fst (Prod.snd (List.getD l i zz3)), Prod.snd (Prod.snd (List.getD l i zz3)))) i zz3), b + 1, Prod.snd (Prod.snd (List.getD (List.set l i (b, Prod.fst (Prod.snd (List.getD l i zz3)), Prod.snd (Prod.snd (List.getD l i zz3)))) i zz3)))) i zz3), Prod.fst (Prod.snd (List.getD (List.set (List.set l i (b, Prod.fst (Prod.snd (List.getD l i zz3)), Prod.snd (Prod.snd (List.getD l i zz3)))) i (Prod.fst (List.getD (List.set l i (b, Prod.fst (Prod.snd (List.getD l i zz3)), Prod.snd (Prod.snd (List.getD l i zz3)))) i zz3), b + 1, Prod.snd (Prod.snd (List.getD (List.set l i (b, Prod.fst (Prod.snd (List.getD l i zz3)), Prod.snd (Prod.snd (List.getD l i zz3)))) i zz3)))) i zz3)), b + 1 + 1)) (b + 1 + 1 + 1) (by simp [hL]) (by omega) (by omega) (by omega) (by omega)
      rw [e]
      exact ⟨l', by rw [show b + 1 + 1 + 1 + 3 * ((L - (i + 1) : Nat) : Int) = b + 3 * ((L - i : Nat) : Int) by omega]⟩
    · simp (disch := omega) only [qaw, nth0, nth1, nth2, nth3, bit, qde, qdf, qdq, qdv, qdw, qdx, qdy, qdz, qd0, qd1, qdg, qdh, qdi, qdj, qdk, qdl, qdm, qdn, qdo, qdp, qdr, qds, qdt, qdu, qnn, qnm, qno, qko, qlb, qlc, qhh, qax, qm5, nI, qd7, qd5, Bool.not_true, Bool.not_false, Bool.and_true, Bool.true_and, Bool.and_false, Bool.false_and, Bool.or_true, Bool.true_or, Bool.or_false, Bool.false_or, beq_self_eq_true, dTT, dFF, dT, dF, bigI, big0, qkn, qn7, qn8, List.length_set, List.length_replicate, Int.toNat_natCast, qdc, qdd, imax, imin]
      exact ⟨l, by rw [show b + 3 * ((L - i : Nat) : Int) = b by omega]⟩
theorem qb7 (k : Nat) (hk : 2000000 ≤ k) (az : Bool) (a : List (Int × Int × Int)) (b : Int) (hl : (a.length : Int) ≤ 1048576) (h0 : 0 ≤ b) (hb : b ≤ 8796093022208) : ∃ l', go (k + 1) laws_markIdS [(.arr true (az) (.r3 (a))), (.int .i64 (b))] = some [.int .i64 (b + 3 * a.length), .arr true az (.r3 l')] := by
  rw [qfn]
  obtain ⟨l', e⟩ := qi5 k hk [] az a az a.length hl k 0 a b rfl (by omega) h0 (by omega) (by omega)
  exact qi5 k hk [] az a az a.length hl _ 0 a b rfl (by omega) h0 (by omega) (by omega)
def marks (b : Int) : Nat → List Int
  | 0 => []
  | n + 1 => b :: marks (b + 1) n
theorem qju : ∀ (n : Nat) (b : Int), (marks b n).length = n
  | 0, b => rfl
  | n + 1, b => by simp [marks, qju n]
theorem qjt : ∀ (n i : Nat) (b : Int), i < n → (marks b n).getD i 0 = b + i
  | 0, i, b, h => by omega
  | n + 1, 0, b, h => by simp [marks]
  | n + 1, i + 1, b, h => by
    have := qjt n i (b + 1) (by omega)
    simp only [marks, List.getD_cons_succ, this]; omega
theorem qi7 (k : Nat) (hk : 2000000 ≤ k) (fu : List (Nat × Nat)) (az : Bool) (a : List Int) (z : Bool) (L : Nat) (hl : (L : Int) ≤ 1048576) : ∀ (n i : Nat) (l : List Int) (b : Int), l.length = L → i ≤ L → 0 ≤ b → b ≤ 8796093022208 + i → L - i < n →
    lp k laws_markIntS [(.arr true (az) (.ints .i64 (a)))] fu 2 (n) (ql6 b (i : Int) z l) = some [.int .i64 (b + (L - i : Nat)), .arr true z (.ints .i64 (l.take i ++ marks b (L - i)))]
  | 0, i, l, b, hL, hi, h0, hb, hn => by omega
  | n + 1, i, l, b, hL, hi, h0, hb, hn => by
    rw [qh2]
    by_cases h : i < L
    · simp (disch := omega) only [qaw, nth0, nth1, nth2, nth3, bit, qde, qdf, qdq, qdv, qdw, qdx, qdy, qdz, qd0, qd1, qdg, qdh, qdi, qdj, qdk, qdl, qdm, qdn, qdo, qdp, qdr, qds, qdt, qdu, qnn, qnm, qno, qko, qlb, qlc, qhh, qax, qm5, nI, qd7, qd5, Bool.not_true, Bool.not_false, Bool.and_true, Bool.true_and, Bool.and_false, Bool.false_and, Bool.or_true, Bool.true_or, Bool.or_false, Bool.false_or, beq_self_eq_true, dTT, dFF, dT, dF, bigI, big0, qkn, qn7, qn8, List.length_set, List.length_replicate, Int.toNat_natCast, qdc, qdd, imax, imin]
      rw [qi7 k hk fu az a z L hl n (i + 1) (l.set i b) (b + 1) (by simp [hL]) (by omega) (by omega) (by omega) (by omega)]
      rw [qms l l i b _ (by omega), show L - i = (L - (i + 1)) + 1 by omega]
      simp only [marks]
      rw [show b + 1 + ((L - (i + 1) : Nat) : Int) = b + ((L - (i + 1) + 1 : Nat) : Int) by omega]
    · simp (disch := omega) only [qaw, nth0, nth1, nth2, nth3, bit, qde, qdf, qdq, qdv, qdw, qdx, qdy, qdz, qd0, qd1, qdg, qdh, qdi, qdj, qdk, qdl, qdm, qdn, qdo, qdp, qdr, qds, qdt, qdu, qnn, qnm, qno, qko, qlb, qlc, qhh, qax, qm5, nI, qd7, qd5, Bool.not_true, Bool.not_false, Bool.and_true, Bool.true_and, Bool.and_false, Bool.false_and, Bool.or_true, Bool.true_or, Bool.or_false, Bool.false_or, beq_self_eq_true, dTT, dFF, dT, dF, bigI, big0, qkn, qn7, qn8, List.length_set, List.length_replicate, Int.toNat_natCast, qdc, qdd, imax, imin]
      rw [show L - i = 0 by omega]
      simp only [marks, List.append_nil]
      rw [List.take_of_length_le (by omega)]
      simp
theorem qb9 (k : Nat) (hk : 2000000 ≤ k) (az : Bool) (a : List Int) (b : Int) (hl : (a.length : Int) ≤ 1048576) (h0 : 0 ≤ b) (hb : b ≤ 8796093022208) : go (k + 1) laws_markIntS [(.arr true (az) (.ints .i64 (a))), (.int .i64 (b))] = some [.int .i64 (b + a.length), .arr true az (.ints .i64 (marks b a.length))] := by
  rw [qfo]
  have e := qi7 k hk [] az a az a.length hl k 0 a b rfl (by omega) h0 (by omega) (by omega)
  simpa using e
theorem qi4 (k : Nat) (hk : 2000000 ≤ k) (fu : List (Nat × Nat)) (z : Bool) (L : Nat) (b0 : Int) (hl : (L : Int) ≤ 1048576) (h0 : 0 ≤ b0) (hb : b0 ≤ 8796093022208) : ∀ (n i : Nat), i ≤ L → L - i < n →
    lp k laws_heldIntS [] fu 2 (n) (ql3 (b0 + (i : Int)) (i : Int) z (marks b0 L)) = some [.int .i64 (b0 + L)]
  | 0, i, hi, hn => by omega
  | n + 1, i, hi, hn => by
    rw [qhz]
    simp only [qju]
    by_cases h : i < L
    · simp (disch := omega) only [qaw, nth0, nth1, nth2, nth3, bit, qde, qdf, qdq, qdv, qdw, qdx, qdy, qdz, qd0, qd1, qdg, qdh, qdi, qdj, qdk, qdl, qdm, qdn, qdo, qdp, qdr, qds, qdt, qdu, qnn, qnm, qno, qko, qlb, qlc, qhh, qax, qm5, nI, qd7, qd5, Bool.not_true, Bool.not_false, Bool.and_true, Bool.true_and, Bool.and_false, Bool.false_and, Bool.or_true, Bool.true_or, Bool.or_false, Bool.false_or, beq_self_eq_true, dTT, dFF, dT, dF, bigI, big0, qkn, qn7, qn8, List.length_set, List.length_replicate, Int.toNat_natCast, qdc, qdd, imax, imin, qjt]
      have := qi4 k hk fu z L b0 hl h0 hb n (i + 1) (by omega) (by omega)
      rw [show b0 + ((i + 1 : Nat) : Int) = b0 + (i : Int) + 1 by omega] at this
      exact this
    · simp (disch := omega) only [qaw, nth0, nth1, nth2, nth3, bit, qde, qdf, qdq, qdv, qdw, qdx, qdy, qdz, qd0, qd1, qdg, qdh, qdi, qdj, qdk, qdl, qdm, qdn, qdo, qdp, qdr, qds, qdt, qdu, qnn, qnm, qno, qko, qlb, qlc, qhh, qax, qm5, nI, qd7, qd5, Bool.not_true, Bool.not_false, Bool.and_true, Bool.true_and, Bool.and_false, Bool.false_and, Bool.or_true, Bool.true_or, Bool.or_false, Bool.false_or, beq_self_eq_true, dTT, dFF, dT, dF, bigI, big0, qkn, qn7, qn8, List.length_set, List.length_replicate, Int.toNat_natCast, qdc, qdd, imax, imin]
      rw [show i = L by omega]
theorem qb5 (k : Nat) (hk : 2000000 ≤ k) (z : Bool) (L : Nat) (b0 : Int) (hl : (L : Int) ≤ 1048576) (h0 : 0 ≤ b0) (hb : b0 ≤ 8796093022208) : go (k + 1) laws_heldIntS [.arr false z (.ints .i64 (marks b0 L)), .int .i64 b0] = some [.int .i64 (b0 + L)] := by
  rw [qfl]
  have e := qi4 k hk [] z L b0 hl h0 hb k 0 (by omega) (by omega)
  simpa using e
end Go.Proofs.Ytcaapedadpnjoaa
end
section
namespace Go.Proofs.Ytcaapedadpnjoaa
open Go Go.RowKit Go.Ev
abbrev zFr : List RK := [.n, .n, .r3, .n, .n, .n, .is]
def cpFr : List RC → List RC
  | [.n a, .n b, .r3 _ l, .n c, .n d, .n e, .is _ m] => [.n a, .n b, .r3 false l, .n c, .n d, .n e, .is false m]
  | r => r
def dsO : List RC → List D
  | [] => []
  | .n x :: r => .int .i64 x :: dsO r
  | .is nil l :: r => .arr true nil (.ints .i64 l) :: dsO r
  | .r3 nil l :: r => .arr true nil (.r3 l) :: dsO r
theorem qlg : ∀ r : List RC, ros (dsO r) = dsR r
  | [] => rfl
  | .n x :: r => by rw [dsO, dsR, ros, qlg r]; rfl
  | .is nil l :: r => by rw [dsO, dsR, ros, qlg r]; rfl
  | .r3 nil l :: r => by rw [dsO, dsR, ros, qlg r]; rfl
theorem qk1 {w : World} {b off : Nat} : ∀ (r : List RC) {us : List Value} {F : Feet}, RepDs w (dsO r) us F → innR (zsR r) us b off → ownOf F b off
  | [], us, F, h, hi => by simp only [zsR, innR] at hi
  | .n x :: r, us, F, h, hi => by
    simp only [dsO, RepDs, RepD] at h
    obtain ⟨u, us', F1, F2, rfl, rfl, ⟨rfl, rfl⟩, h2⟩ := h
    simp only [zsR, innR, kspan, false_or] at hi
    obtain ⟨A, hA, h1, h3⟩ := qk1 r h2 hi
    exact ⟨A, by simp [hA], h1, h3⟩
  | .is nil l :: r, us, F, h, hi => by
    simp only [dsO, RepDs, RepD] at h
    obtain ⟨u, us', F1, F2, rfl, rfl, ⟨p, rfl, hr, rfl⟩, h2⟩ := h
    simp only [zsR, innR, kspan] at hi
    rcases hi with ⟨x, n, c, e, hb, _⟩ | hi
    · exact ⟨(true, foot p (.arr true nil (.ints .i64 l))), by simp, rfl, by
        injection e with e1 e2 e3
        exact ⟨x, e1, hb, .inl rfl⟩⟩
    · obtain ⟨A, hA, h1, h3⟩ := qk1 r h2 hi
      exact ⟨A, by simp [hA], h1, h3⟩
  | .r3 nil l :: r, us, F, h, hi => by
    simp only [dsO, RepDs, RepD] at h
    obtain ⟨u, us', F1, F2, rfl, rfl, ⟨p, rfl, hr, rfl⟩, h2⟩ := h
    simp only [zsR, innR, kspan] at hi
    rcases hi with ⟨x, n, c, e, hb, _⟩ | hi
    · exact ⟨(true, foot p (.arr true nil (.r3 l))), by simp, rfl, by
        injection e with e1 e2 e3
        exact ⟨x, e1, hb, .inl rfl⟩⟩
    · obtain ⟨A, hA, h1, h3⟩ := qk1 r h2 hi
      exact ⟨A, by simp [hA], h1, h3⟩
end Go.Proofs.Ytcaapedadpnjoaa
end
section
namespace Go.Proofs.Ytcaapedadpnjoaa
open Go Go.RowKit Go.Ev
theorem qg4 {w : World} {b o : Nat} {vs : List Value} (ht : w.there b o vs.length) (h1 : ∀ u ∈ vs, u.oneCell' = true) : Fr (Span b o vs.length) w (w.setCells b o vs) := by
  obtain ⟨w', hr, hf, _⟩ := storeCells_ok (P := Try.prog) ⟨b, o, none⟩ rfl vs 0 w (fun j hj => by
    rw [Addr.add_mid, Nat.zero_add]
    exact ⟨Option.isSome_iff_exists.1 (ht j hj).1, (ht j hj).2⟩) h1
  have e := run_storeCells_cells (P := Try.prog) b o vs 0 w (fun j hj => (ht j hj).1) (fun j hj => (ht j hj).2) h1
  rw [e] at hr
  cases hr
  exact hf
theorem qg3 {M : Nat → Nat → Prop} {w w' : World} (f : Fr M w w') (hm : ∀ b off, b < w.heap.size → ¬ M b off) : RowKit.Below w.heap.size w w' :=
  Fr.below (f.mono fun b off hb h => hm b off hb h)
theorem qld {N b o : Nat} {cs : List Value} {w w' : World} (h : RowKit.Below N w w') (hb : b < N) (r : w.rangeAt b o cs) : w'.rangeAt b o cs := fun j v hv => (h.cell (p := ⟨b, o + j, none⟩) hb).trans (r j v hv)
theorem qnh {M : Nat → Nat → Prop} {b o n : Nat} {w w' : World} (h : RowKit.Below w.heap.size w w') (r : w.there b o n) : w'.there b o n := fun j hj => by
  obtain ⟨v, hv⟩ := Option.isSome_iff_exists.1 (r j hj).1
  have hb := World.block_lt_of_cell? w _ hv
  refine ⟨?_, ?_⟩
  · rw [h.cell hb, hv]; rfl
  · have f : Fr (fun _ _ => False) w w' := fr_of_below h
    rw [f.frozen hb]; exact (r j hj).2
def TfsI (w : World) (l : List (List RC)) (k : Nat) (wr : World) : Prop := ∃ uss : List (List Value), RowsL wr zFr uss ((l.take k).map cpFr) ∧ wr.rangeAt w.heap.size 0 uss.flatten ∧ wr.there w.heap.size 0 (l.length * 7) ∧
  (∀ us ∈ uss, ∀ b off, innR zFr us b off → w.heap.size < b) ∧ Fr (fun b _ => b = w.heap.size) w wr ∧ w.heap.size < wr.heap.size
theorem qni {w : World} {b o n m : Nat} (h : w.there b 0 n) (hm : o + m ≤ n) : w.there b o m := fun j hj => by
  have := h (o + j) (by omega)
  rwa [Nat.zero_add] at this
theorem TfsI.step {w wr W : World} {l : List (List RC)} {k : Nat} {vs : List Value} (I : TfsI w l k wr) (hk : k < l.length) (hb : RowKit.Below wr.heap.size wr W) (hv : RowL W zFr vs (cpFr (l.getD k []))) (hn : ∀ b off, innR zFr vs b off → wr.heap.size ≤ b) :
    W.there w.heap.size (k * 7) vs.length ∧ (∀ u ∈ vs, u.oneCell' = true) ∧ TfsI w l (k + 1) (W.setCells w.heap.size (k * 7) vs) := by
  obtain ⟨uss, hR, hC, hT, hI, hF, hS⟩ := I
  have h1 := hv.one
  have v7 : vs.length = 7 := hv.len.1
  have hT' := qnh (M := fun _ _ => False) hb hT
  have hT2 : W.there w.heap.size (k * 7) vs.length := qni hT' (by rw [v7]; omega)
  have fs := qg4 hT2 h1
  have tk : (l.take k).length = k := by rw [List.length_take]; omega
  have ul : uss.flatten.length = k * 7 := by
    have := hR.flat
    rw [List.length_map, tk] at this
    exact this
  have e : (l.take (k + 1)).map cpFr = (l.take k).map cpFr ++ [cpFr (l.getD k [])] := by
    rw [List.take_succ_eq_append_getElem hk, List.map_append]
    simp [hk]
  refine ⟨hT2, h1, uss ++ [vs], ?_, ?_, World.there_setCells hT' _ _ _, ?_, ?_, ?_⟩
  · rw [e]
    have g1 : RowsL W zFr uss ((l.take k).map cpFr) := hR.frame (N := fun _ _ => False) (fr_of_below hb) fun _ _ _ h => h
    have g2 : RowsL (W.setCells w.heap.size (k * 7) vs) zFr uss ((l.take k).map cpFr) := g1.frame fs fun b off ⟨us, hu, h⟩ hs => by
      have := hI us hu b off h
      have := hs.1
      omega
    have g3 : RowL (W.setCells w.heap.size (k * 7) vs) zFr vs (cpFr (l.getD k [])) := hv.frame fs fun b off h hs => by
      have := hn b off h
      have := hs.1
      omega
    exact RowsL.app (vss := [vs]) ⟨_, [], rfl, g3, rfl⟩ g2
  · rw [List.flatten_append]
    have a1 := World.rangeAt_setCells_apart (qld hb hS hC) w.heap.size (k * 7) vs (.inr (.inl (by omega)))
    have a2 := World.rangeAt_setCells_same W w.heap.size (k * 7) vs hT2
    intro j v hj
    by_cases hlt : j < uss.flatten.length
    · rw [List.getElem?_append_left hlt] at hj
      exact a1 j v hj
    · rw [List.getElem?_append_right (by omega)] at hj
      have := a2 (j - uss.flatten.length) v (by simpa using hj)
      rwa [show k * 7 + (j - uss.flatten.length) = 0 + j by omega] at this
  · intro us hu b off h
    rcases List.mem_append.1 hu with hu | hu
    · exact hI us hu b off h
    · rw [List.mem_singleton] at hu
      subst hu
      have := hn b off h
      omega
  · exact hF.trans ((fr_of_below hb).trans (fs.mono fun b off _ h => h.1))
  · have := hb.size; have := fs.size; omega
end Go.Proofs.Ytcaapedadpnjoaa
end
section
namespace Go.Proofs.Ytcaapedadpnjoaa
open Go.Ev
set_option maxRecDepth 20000
theorem qfy (k : Nat) (a0 : Int) (a1z : Bool) (a1 : List (Int × Int × Int)) (a2z : Bool) (a2 : List Int) (a3z : Bool) (a3 : List Int) (a4z : Bool) (a4 : List Int) : go (k + 1) laws_toState [(.agg [(.int .i64 (a0)), (.arr false (a1z) (.r3 (a1))), (.arr false (a2z) (.ints .i64 (a2))), (.arr false (a3z) (.ints .i64 (a3))), (.arr false (a4z) (.ints .i64 (a4)))])] =
 (go k laws_toMesh [(.agg [(.int .i64 (a0)), (.arr false (a1z) (.r3 (a1)))])]).bind fun r0 =>
 (go k laws_toIntS [(.arr false (a2z) (.ints .i64 (a2)))]).bind fun r1 =>
 (go k laws_toIntS [(.arr false (a3z) (.ints .i64 (a3)))]).bind fun r2 =>
 (go k laws_toIntS [(.arr false (a4z) (.ints .i64 (a4)))]).bind fun r3 =>
 some [(.agg [(.int .i64 (D.toInt (D.cell 0 (nth r0 0)))), (.arr true (D.nil (D.cell 1 (nth r0 0))) (.r3 (D.r3 (D.cell 1 (nth r0 0))))), (.arr true (D.nil (nth r1 0)) (.ints .i64 (D.ints (nth r1 0)))), (.arr true (D.nil (nth r2 0)) (.ints .i64 (D.ints (nth r2 0)))), (.arr true (D.nil (nth r3 0)) (.ints .i64 (D.ints (nth r3 0))))])] := by kernel_rfl

end Go.Proofs.Ytcaapedadpnjoaa
end
section
namespace Go.Proofs.Ytcaapedadpnjoaa
open Go Go.RowKit Go.Ev
abbrev zSt : List RK := [.n, .r3, .is, .is, .is]
def okSt : List RC → Bool
  | [.n _, .r3 _ l, .is _ a, .is _ b, .is _ c] => decide ((l.length : Int) ≤ 1048576) && (decide ((a.length : Int) ≤ 1048576) && (decide ((b.length : Int) ≤ 1048576) && decide ((c.length : Int) ≤ 1048576)))
  | _ => false
def cpSt : List RC → List RC
  | [.n r, .r3 _ l, .is _ a, .is _ b, .is _ c] => [.n r, .r3 false l, .is false a, .is false b, .is false c]
  | r => r
theorem qkt {r : List RC} (h : okSt r = true) : zsR r = zSt := by
  unfold okSt at h
  split at h
  · rfl
  · cases h
theorem qkp {r : List RC} (h : okSt r = true) : okSt (cpSt r) = true := by
  unfold okSt at h
  split at h
  · simp only [Bool.and_eq_true, decide_eq_true_eq] at h
    simp only [cpSt, okSt, h, decide_true, Bool.and_true]
  · cases h
theorem qcj (k : Nat) (hk : 2000000 ≤ k) (r : Int) (z1 z2 z3 z4 : Bool) (l : List Cell) (a b c : List Int) (hl : (l.length : Int) ≤ 1048576) (ha : (a.length : Int) ≤ 1048576) (hb : (b.length : Int) ≤ 1048576) (hc : (c.length : Int) ≤ 1048576) :
    go (k + 4) laws_toState [.agg [.int .i64 r, .arr false z1 (.r3 l), .arr false z2 (.ints .i64 a), .arr false z3 (.ints .i64 b), .arr false z4 (.ints .i64 c)]] = some [.agg [.int .i64 r, .arr true false (.r3 l), .arr true false (.ints .i64 a), .arr true false (.ints .i64 b), .arr true false (.ints .i64 c)]] := by
  rw [qfy]
  simp (disch := omega) only [qaw, nth0, nth1, nth2, nth3, bit, qde, qdf, qdq, qdv, qdw, qdx, qdy, qdz, qd0, qd1, qdg, qdh, qdi, qdj, qdk, qdl, qdm, qdn, qdo, qdp, qdr, qds, qdt, qdu, qnn, qnm, qno, qko, qlb, qlc, qhh, qax, qm5, nI, qd7, qd5, Bool.not_true, Bool.not_false, Bool.and_true, Bool.true_and, Bool.and_false, Bool.false_and, Bool.or_true, Bool.true_or, Bool.or_false, Bool.false_or, beq_self_eq_true, dTT, dFF, dT, dF, bigI, big0, qkn, qn7, qn8, List.length_set, List.length_replicate, Int.toNat_natCast, qdc, qdd, imax, imin, qci, qch]
def qaf (w : World) : Nat → List (List Value) → Nat → Prop
  | lo, [], hi => lo ≤ hi
  | lo, us :: uss, hi => ∃ mid F r, okSt r = true ∧ RepDs w (dsO r) us F ∧ Sep F ∧ (∀ b off, ownOf F b off → lo ≤ b ∧ b < mid) ∧ lo ≤ mid ∧ qaf w mid uss hi
theorem qaf.le {w : World} : ∀ {uss : List (List Value)} {lo hi : Nat}, qaf w lo uss hi → lo ≤ hi
  | [], lo, hi, h => h
  | us :: uss, lo, hi, ⟨mid, _, _, _, _, _, _, h1, h2⟩ => Nat.le_trans h1 h2.le
theorem qee {w : World} : ∀ (r : List RC) {us : List Value} {F : Feet}, RepDs w (dsO r) us F → ∀ A ∈ F, A.1 = true
  | [], us, F, h => by simp only [dsO, RepDs] at h; obtain ⟨_, rfl⟩ := h; intro A hA; cases hA
  | .n x :: r, us, F, h => by
    simp only [dsO, RepDs, RepD] at h
    obtain ⟨u, us', F1, F2, rfl, rfl, ⟨rfl, rfl⟩, h2⟩ := h
    exact qee r h2
  | .is nil l :: r, us, F, h => by
    simp only [dsO, RepDs, RepD] at h
    obtain ⟨u, us', F1, F2, rfl, rfl, ⟨p, rfl, hr, rfl⟩, h2⟩ := h
    intro A hA
    rcases List.mem_append.1 hA with hA | hA
    · rw [List.mem_singleton.1 hA]
    · exact qee r h2 A hA
  | .r3 nil l :: r, us, F, h => by
    simp only [dsO, RepDs, RepD] at h
    obtain ⟨u, us', F1, F2, rfl, rfl, ⟨p, rfl, hr, rfl⟩, h2⟩ := h
    intro A hA
    rcases List.mem_append.1 hA with hA | hA
    · rw [List.mem_singleton.1 hA]
    · exact qee r h2 A hA
theorem qed {w : World} {b off : Nat} : ∀ (r : List RC) {us : List Value} {F : Feet}, RepDs w (dsO r) us F → ownOf F b off → b < w.heap.size
  | [], us, F, h, ⟨A, hA, _⟩ => by simp only [dsO, RepDs] at h; obtain ⟨_, rfl⟩ := h; cases hA
  | .n x :: r, us, F, h, ho => by
    simp only [dsO, RepDs, RepD] at h
    obtain ⟨u, us', F1, F2, rfl, rfl, ⟨rfl, rfl⟩, h2⟩ := h
    exact qed r h2 ho
  | .is nil l :: r, us, F, h, ⟨A, hA, h1, h3⟩ => by
    simp only [dsO, RepDs, RepD] at h
    obtain ⟨u, us', F1, F2, rfl, rfl, ⟨p, rfl, hr, rfl⟩, h2⟩ := h
    rcases List.mem_append.1 hA with hA | hA
    · rw [List.mem_singleton.1 hA] at h3; exact hr.lt' b off h3
    · exact qed r h2 ⟨A, hA, h1, h3⟩
  | .r3 nil l :: r, us, F, h, ⟨A, hA, h1, h3⟩ => by
    simp only [dsO, RepDs, RepD] at h
    obtain ⟨u, us', F1, F2, rfl, rfl, ⟨p, rfl, hr, rfl⟩, h2⟩ := h
    rcases List.mem_append.1 hA with hA | hA
    · rw [List.mem_singleton.1 hA] at h3; exact hr.lt' b off h3
    · exact qed r h2 ⟨A, hA, h1, h3⟩
theorem qaf.frame {w w' : World} {N : Nat → Nat → Prop} (f : Fr N w w') : ∀ {uss : List (List Value)} {lo hi : Nat}, qaf w lo uss hi → (∀ b off, lo ≤ b → b < hi → ¬ N b off) → qaf w' lo uss hi
  | [], lo, hi, h, hn => h
  | us :: uss, lo, hi, ⟨mid, F, r, hz, h1, h2, h3, h4, h5⟩, hn => by
    refine ⟨mid, F, r, hz, RepDs.frame f _ h1 fun A hA b off hb => ?_, h2, h3, h4, h5.frame f fun b off hb hb' => hn b off (by omega) hb'⟩
    have := h3 b off ⟨A, hA, qee r h1 A hA, hb⟩
    have := h5.le
    exact hn b off (by omega) (by omega)
theorem qaf.snoc {w : World} {us : List Value} {F : Feet} {r : List RC} {h1 hi : Nat} (hz : okSt r = true) (hr : RepDs w (dsO r) us F) (hs : Sep F) (hb : ∀ b off, ownOf F b off → h1 ≤ b ∧ b < hi) (hle : h1 ≤ hi) : ∀ {uss : List (List Value)} {lo : Nat}, qaf w lo uss h1 → qaf w lo (uss ++ [us]) hi
  | [], lo, h => ⟨hi, F, r, hz, hr, hs, fun b off ho => by have := hb b off ho; have h : lo ≤ h1 := h; omega, by have h : lo ≤ h1 := h; omega, Nat.le_refl _⟩
  | us' :: uss, lo, ⟨mid, G, q, k1, k2, k3, k4, k5, k6⟩ => ⟨mid, G, q, k1, k2, k3, k4, k5, k6.snoc hz hr hs hb hle⟩
end Go.Proofs.Ytcaapedadpnjoaa
end
section
namespace Go.Proofs.Ytcaapedadpnjoaa
open Go Go.RowKit Go.Ev
def TssI (w : World) (l : List (List RC)) (k : Nat) (wr : World) : Prop := ∃ uss : List (List Value), RowsL wr zSt uss ((l.take k).map cpSt) ∧ wr.rangeAt w.heap.size 0 uss.flatten ∧ wr.there w.heap.size 0 (l.length * 5) ∧
  qaf wr (w.heap.size + 1) uss wr.heap.size ∧ Fr (fun b _ => b = w.heap.size) w wr ∧ w.heap.size < wr.heap.size
theorem qaf.inn {w : World} {b off : Nat} : ∀ {uss : List (List Value)} {lo hi : Nat}, qaf w lo uss hi → ∀ us ∈ uss, innR zSt us b off → lo ≤ b ∧ b < hi
  | [], lo, hi, h, us, hu, hi' => by cases hu
  | us' :: uss, lo, hi, ⟨mid, F, r, hz, h1, h2, h3, h4, h5⟩, us, hu, hi' => by
    rcases List.mem_cons.1 hu with rfl | hu
    · rw [← qkt hz] at hi'
      have := h3 b off (qk1 r h1 hi')
      have := h5.le
      omega
    · have := h5.inn us hu hi'
      omega
theorem qaf.up {w : World} : ∀ {uss : List (List Value)} {lo hi hi' : Nat}, qaf w lo uss hi → hi ≤ hi' → qaf w lo uss hi'
  | [], lo, hi, hi', h, hh => Nat.le_trans h hh
  | us :: uss, lo, hi, hi', ⟨mid, F, r, hz, h1, h2, h3, h4, h5⟩, hh => ⟨mid, F, r, hz, h1, h2, h3, h4, h5.up hh⟩
theorem TssI.step {w wr W : World} {l : List (List RC)} {k : Nat} {vs : List Value} {F : Feet} (I : TssI w l k wr) (hk : k < l.length) (hb : RowKit.Below wr.heap.size wr W) (hz : okSt (cpSt (l.getD k [])) = true) (hv : RepDs W (dsO (cpSt (l.getD k []))) vs F) (hs : Sep F) (hn : ∀ b off, ownOf F b off → wr.heap.size ≤ b) :
    W.there w.heap.size (k * 5) vs.length ∧ (∀ u ∈ vs, u.oneCell' = true) ∧ vs.length = 5 ∧ TssI w l (k + 1) (W.setCells w.heap.size (k * 5) vs) := by
  obtain ⟨uss, hR, hC, hT, hO, hF, hS⟩ := I
  have hv' : RowL W zSt vs (cpSt (l.getD k [])) := by
    obtain ⟨G, hG, _⟩ := RepDs.ro _ hv
    rw [qlg] at hG
    rw [← qkt hz]
    exact row_of_ds _ hG
  have h1 := hv'.one
  have v7 : vs.length = 5 := hv'.len.1
  have hT' := qnh (M := fun _ _ => False) hb hT
  have hT2 : W.there w.heap.size (k * 5) vs.length := qni hT' (by rw [v7]; omega)
  have fs := qg4 hT2 h1
  have tk : (l.take k).length = k := by rw [List.length_take]; omega
  have ul : uss.flatten.length = k * 5 := by
    have := hR.flat
    rw [List.length_map, tk] at this
    exact this
  have e : (l.take (k + 1)).map cpSt = (l.take k).map cpSt ++ [cpSt (l.getD k [])] := by
    rw [List.take_succ_eq_append_getElem hk, List.map_append]
    simp [hk]
  have oW : qaf W (w.heap.size + 1) uss wr.heap.size := hO.frame (N := fun _ _ => False) (fr_of_below hb) fun _ _ _ _ h => h
  have vlt : ∀ b off, ownOf F b off → wr.heap.size ≤ b ∧ b < W.heap.size := fun b off ho => ⟨hn b off ho, qed _ hv ho⟩
  have oW2 : qaf W (w.heap.size + 1) (uss ++ [vs]) W.heap.size := oW.snoc hz hv hs vlt hb.size
  refine ⟨hT2, h1, v7, uss ++ [vs], ?_, ?_, World.there_setCells hT' _ _ _, ?_, ?_, ?_⟩
  · rw [e]
    have g1 : RowsL W zSt uss ((l.take k).map cpSt) := hR.frame (N := fun _ _ => False) (fr_of_below hb) fun _ _ _ h => h
    have g2 : RowsL (W.setCells w.heap.size (k * 5) vs) zSt uss ((l.take k).map cpSt) := g1.frame fs fun b off ⟨us, hu, h⟩ hs => by
      have := oW.inn us hu h
      have := hs.1
      omega
    have g3 : RowL (W.setCells w.heap.size (k * 5) vs) zSt vs (cpSt (l.getD k [])) := hv'.frame fs fun b off h hs => by
      rw [← qkt hz] at h
      have := hn b off (qk1 _ hv h)
      have := hs.1
      omega
    exact RowsL.app (vss := [vs]) ⟨_, [], rfl, g3, rfl⟩ g2
  · rw [List.flatten_append]
    have a1 := World.rangeAt_setCells_apart (qld hb hS hC) w.heap.size (k * 5) vs (.inr (.inl (by omega)))
    have a2 := World.rangeAt_setCells_same W w.heap.size (k * 5) vs hT2
    intro j v hj
    by_cases hlt : j < uss.flatten.length
    · rw [List.getElem?_append_left hlt] at hj
      exact a1 j v hj
    · rw [List.getElem?_append_right (by omega)] at hj
      have := a2 (j - uss.flatten.length) v (by simpa using hj)
      rwa [show k * 5 + (j - uss.flatten.length) = 0 + j by omega] at this
  · refine (oW2.frame fs fun b off hb' _ hs => ?_).up fs.size
    have := hs.1
    omega
  · exact hF.trans ((fr_of_below hb).trans (fs.mono fun b off _ h => h.1))
  · have := hb.size; have := fs.size; omega
theorem qnp {r : List RC} (hok : okSt r = true) {W : World} {us : List Value} (hr : RowL W zSt us r) :
    Calls Try.prog 60 #[.agg us.toArray] W fun e W' => ∃ (vs : List Value) (F : Feet), e = .returned (.agg vs.toArray) ∧ okSt (cpSt r) = true ∧ RepDs W' (dsO (cpSt r)) vs F ∧ Sep F ∧ (∀ b off, ownOf F b off → W.heap.size ≤ b) ∧ RowKit.Below W.heap.size W W' := by
  have hcp := qkp hok
  unfold okSt at hok
  split at hok
  · rename_i r0 z1 l z2 a z3 b z4 c
    simp only [Bool.and_eq_true, decide_eq_true_eq] at hok
    obtain ⟨_, F, hF, sF⟩ := ds_of_row hr
    have ct : Contract Try.prog 60 [] [.agg (dsR [.n r0, .r3 z1 l, .is z2 a, .is z3 b, .is z4 c])] [.agg (dsO (cpSt [.n r0, .r3 z1 l, .is z2 a, .is z3 b, .is z4 c]))] := by
      have e1 : ev Try.prog An (2000000 + 4) 60 [.agg (dsR [.n r0, .r3 z1 l, .is z2 a, .is z3 b, .is z4 c])] = some [.agg (dsO (cpSt [.n r0, .r3 z1 l, .is z2 a, .is z3 b, .is z4 c]))] :=
        qcj 2000000 (by omega) r0 z1 z2 z3 z4 l a b c hok.1 hok.2.1 hok.2.2.1 hok.2.2.2
      exact ev_contract good noExt e1
    refine (ct.one (args := #[.agg us.toArray]) (F := F) (by
      simp only [RepDs, RepD]
      exact ⟨_, [], F, [], rfl, (List.append_nil F).symm, ⟨us.toArray, rfl, by simpa using hF⟩, rfl, rfl⟩) sF).mono ?_
    rintro e' W' ⟨v, F', rfl, hv, hs, hn, hb⟩
    simp only [RepD] at hv
    obtain ⟨va, rfl, hv⟩ := hv
    exact ⟨va.toList, F', by simp, hcp, hv, hs, hn, hb⟩
  · cases hok
end Go.Proofs.Ytcaapedadpnjoaa
end
section
namespace Go.Proofs.Ytcaapedadpnjoaa
open Go Go.RowKit Go.Ev
theorem qlh {w wr : World} {x : Addr} {inn : List (List Value)} {l : List (List RC)} {k : Nat} (hR : RowsL w zSt inn l) (hC : CellsL w x inn.flatten) (hk : k < l.length) (hF : Fr (fun b _ => b = w.heap.size) w wr) :
    ∃ (us : List Value) (Ab Ao : Nat), x.add (k * 5) = ⟨Ab, Ao, none⟩ ∧ us.length = 5 ∧ wr.rangeAt Ab Ao us ∧ RowL wr zSt us (l.getD k []) := by
  obtain ⟨h1, h2, h3⟩ := hR.get hk
  have u5 : (inn.getD k []).length = 5 := h1.len.1
  have hc : ∀ j v, (inn.getD k [])[j]? = some v → w.cell? (x.add (k * 5 + j)) = some v := by
    intro j v hj
    rw [← h3] at hj
    rw [List.getElem?_take] at hj
    split at hj
    · rw [List.getElem?_drop] at hj
      exact hC _ v hj
    · cases hj
  obtain ⟨v0, hv0⟩ : ∃ v, (inn.getD k [])[0]? = some v := ⟨_, List.getElem?_eq_getElem (by omega)⟩
  have c0 := hc 0 v0 hv0
  have sp := World.cell?_spot c0
  obtain ⟨Ab, Ao, hA⟩ : ∃ Ab Ao, x.add (k * 5) = ⟨Ab, Ao, none⟩ := by
    rw [Nat.add_zero] at sp
    cases h : x.add (k * 5) with
    | mk b o s => rw [h] at sp; exact ⟨b, o, by rw [show s = none from sp]⟩
  refine ⟨inn.getD k [], Ab, Ao, hA, u5, fun j v hj => ?_, h1.frame hF fun b off h e => ?_⟩
  · have := hc j v hj
    have e : x.add (k * 5 + j) = ⟨Ab, Ao + j, none⟩ := by
      rw [← Addr.add_add, hA, Addr.add_mid]
    rw [e] at this
    have hb := World.block_lt_of_cell? w _ this
    exact hF.cell this fun h => by
      have h : Ab = w.heap.size := h
      have hb : Ab < w.heap.size := hb
      omega
  · have := h1.lt h
    omega
set_option maxRecDepth 100000 in
set_option maxHeartbeats 2000000 in
theorem qnt {z : Bool} {l : List (List RC)} (hl : l.length ≤ 1048576) (hok : ∀ i, i < l.length → okSt (l.getD i []) = true) (w : World) (sl : Option Addr) (cap : Nat) (inn : List (List Value)) (hR : RowsL w zSt inn l) (hC : ∀ x, sl = some x → CellsL w x inn.flatten) (h0 : sl = none → l.length = 0) (hcap : l.length ≤ cap ∨ sl = none) :
    Calls Try.prog 24 #[.slice sl l.length cap] w fun e w' => e = .returned (.slice (some ⟨w.heap.size, 0, none⟩) l.length l.length) ∧ TssI w l l.length w' := by
  obtain ⟨i, hi, hz, hsz, hby⟩ : ∃ i, Try.prog.info? 33 = some i ∧ i.zero = some (.agg #[.int .i64 0, .slice none 0 0, .slice none 0 0, .slice none 0 0, .slice none 0 0]) ∧ i.size = 5 ∧ i.bytes = 104 := by
    have e : (Try.prog.info? 33).map (fun i => (i.zero, i.size, i.bytes)) = some (some (.agg #[.int .i64 0, .slice none 0 0, .slice none 0 0, .slice none 0 0, .slice none 0 0]), 5, 104) := by kernel_rfl
    obtain ⟨i, h1, h2⟩ := Option.map_eq_some_iff.1 e
    simp only [Prod.mk.injEq] at h2
    exact ⟨i, h1, h2⟩
  obtain ⟨z0, hz0⟩ : ∃ z0 : Value, z0 = .agg #[.int .i64 0, .slice none 0 0, .slice none 0 0, .slice none 0 0, .slice none 0 0] := ⟨_, rfl⟩
  rw [← hz0] at hz
  have hmk := run_make (P := Try.prog) w 24 33 i z0 Try.underlying24 hi hz .i64 .i64 (l.length : Int) (l.length : Int) (by omega) (Int.le_refl _) (by rw [hby]; omega) (by omega)
  rw [Int.toNat_natCast, hsz] at hmk
  obtain ⟨w1, hw1⟩ : ∃ w1, w1 = w.alloc (.cells (madeCells z0.cells (l.length * 5)) 33) := ⟨_, rfl⟩
  rw [← hw1] at hmk
  clear hi hz hsz hby
  go_enter Try.func24, Try.ntmps24
  have I0 : TssI w l 0 w1 := by
    have hh : w1.heap[w.heap.size]? = some (.cells (madeCells z0.cells (l.length * 5)) 33 (0, 0)) := by rw [hw1]; exact heap_alloc_new w _
    refine ⟨[], rfl, (fun j v hj => by simp at hj), (fun j hj => ⟨?_, ?_⟩), (by show w.heap.size + 1 ≤ w1.heap.size; rw [hw1]; simp), (by rw [hw1]; exact (fr_alloc w _).mono fun _ _ _ h => h.elim), (by rw [hw1]; simp)⟩
    · simp only [World.cell?, hh]
      rw [Nat.zero_add, Array.getElem?_eq_getElem (by rw [size_madeCells]; exact hj)]; rfl
    · simp [World.frozen?, hh]
  clear hw1
  go_wp2
  go_loopw [4] (fun i wr => ∃ k : Nat, k ≤ l.length ∧ i = .int .i64 k ∧ TssI w l k wr) (fun i _ => l.length - (RowKit.intOf i).toNat)
  case atStart => exact ⟨0, Nat.zero_le _, rfl, I0⟩
  case round =>
    obtain ⟨k, hkl, rfl, hI⟩ := hrel
    by_cases hlt : k < l.length
    · obtain ⟨x, rfl⟩ : ∃ x, sl = some x := by
        cases h : sl with
        | none => have := h0 h; omega
        | some x => exact ⟨x, rfl⟩
      have hI' := hI
      obtain ⟨_, _, _, _, _, hF, hS⟩ := hI'
      obtain ⟨us, Ab, Ao, hA, u5, hra, hrow⟩ := qlh hR (hC x rfl) hlt hF
      have hcall := qnp (hok k hlt) hrow
      have hload := run_loadAt_mid (P := Try.prog) wr Ab Ao 102 us _ hra Try.underlying102 rfl (by rw [u5]; kernel_rfl)
      go_wp2_with (first | (refine wp_load_mid _ _ rfl Ab Ao (by first | rfl | simp | simp [hA]) us _ hra Try.underlying102 rfl (by rw [u5]; kernel_rfl) ?_) | (refine wpList_load_mid rfl _ _ rfl Ab Ao (by first | rfl | simp | simp [hA]) us _ hra Try.underlying102 rfl (by rw [u5]; kernel_rfl) ?_))
      refine hcall.mono ?_
      rintro e W ⟨vs, F, rfl, hz', hv, hs', hn, hb⟩
      obtain ⟨ht, h1, v5, I2⟩ := hI.step hlt hb hz' hv hs' hn
      have hst := run_storeCells_cells (P := Try.prog) w.heap.size (k * 5) vs 0 W (fun j hj => (ht j hj).1) (fun j hj => (ht j hj).2) h1
      rw [Nat.add_zero] at hst
      clear hcall hload hra hrow ht h1
      go_wp2
      go_roundw
      case rel => exact ⟨k + 1, by omega, by go_num, I2⟩
      case measure => simp [RowKit.intOf]; omega
    · obtain rfl : k = l.length := by omega
      go_wp2
      go_ret
      exact ⟨rfl, hI⟩
end Go.Proofs.Ytcaapedadpnjoaa
end
section
namespace Go.Proofs.Ytcaapedadpnjoaa
open Go Go.RowKit Go.Ev
theorem Contract.marked {P : Program} {f : Nat} {a a' : Arr} {z z' : Bool} {b b' : Int} (h : Contract P f [true] [.arr true z a, .int .i64 b] [.int .i64 b', .arr true z' a']) {w : World} {v : Value} {F : Feet} (hd : RepD w (.arr true z a) v F) :
    Calls P f #[v, .int .i64 b] w fun e w' => e = .returned (.int .i64 b') ∧ Fr (ownOf F) w w' := by
  obtain ⟨fn, _, _, hc⟩ := h
  have hF : ∃ A, F = [A] := by
    simp only [RepD] at hd
    obtain ⟨p, _, _, rfl⟩ := hd
    exact ⟨_, rfl⟩
  obtain ⟨A, rfl⟩ := hF
  refine (hc w #[v, .int .i64 b] [A] (by
    simp only [RepDs]
    exact ⟨v, _, [A], [], rfl, rfl, hd, .int .i64 b, [], [], [], rfl, rfl, by simp [RepD], rfl, rfl⟩) (by simp [Ev.Sep])).mono ?_
  rintro e w' ⟨outs, F', rfl, hl, hrep, hs, hfr, hnew, _⟩
  have hm : muts [true] (#[v, Value.int .i64 b]).toList = [v] := by simp [muts]
  rw [hm] at hrep
  simp only [RepDs, RepD] at hrep
  obtain ⟨u, us, F1, F2, e1, _, ⟨rfl, _⟩, u2, us2, F3, F4, rfl, _, _, rfl, _⟩ := hrep
  cases outs with
  | nil => cases e1
  | cons o outs =>
    cases outs with
    | nil =>
      injection e1 with e1 _
      subst e1
      exact ⟨rfl, hfr⟩
    | cons o2 outs => simp at e1
theorem qjo {W : World} {v : Value} {F : Feet} {z : Bool} {l : List Int} {b : Int} (hd : RepD W (.arr true z (.ints .i64 l)) v F) (hl : (l.length : Int) ≤ 1048576) (h0 : 0 ≤ b) (hb : b ≤ 8796093022208) :
    Calls Try.prog 28 #[v, .int .i64 b] W fun e W' => e = .returned (.int .i64 (b + l.length)) ∧ Fr (ownOf F) W W' := by
  have e1 : ev Try.prog An (2000000 + 1) 28 [.arr true z (.ints .i64 l), .int .i64 b] = some [.int .i64 (b + l.length), .arr true z (.ints .i64 (marks b l.length))] := qb9 2000000 (by omega) z l b hl h0 hb
  exact Contract.marked (ev_contract good noExt e1) hd
theorem qjn {W : World} {v : Value} {F : Feet} {z : Bool} {l : List Cell} {b : Int} (hd : RepD W (.arr true z (.r3 l)) v F) (hl : (l.length : Int) ≤ 1048576) (h0 : 0 ≤ b) (hb : b ≤ 8796093022208) :
    Calls Try.prog 62 #[v, .int .i64 b] W fun e W' => e = .returned (.int .i64 (b + 3 * l.length)) ∧ Fr (ownOf F) W W' := by
  obtain ⟨l', e1⟩ := qb7 2000000 (by omega) z l b hl h0 hb
  have e1 : ev Try.prog An (2000000 + 1) 62 [.arr true z (.r3 l), .int .i64 b] = some [.int .i64 (b + 3 * l.length), .arr true z (.r3 l')] := e1
  exact Contract.marked (ev_contract good noExt e1) hd
theorem qlj {W : World} {r : List RC} (hok : okSt r = true) {us : List Value} {F : Feet} (hr : RepDs W (dsO r) us F) (hs : Ev.Sep F) :
    ∃ (n : Value) (v1 v2 v3 v4 : Value) (F1 F2 F3 F4 : Feet) (z1 z2 z3 z4 : Bool) (l : List Cell) (a b c : List Int), us = [n, v1, v2, v3, v4] ∧ F = F1 ++ (F2 ++ (F3 ++ F4)) ∧
      RepD W (.arr true z1 (.r3 l)) v1 F1 ∧ RepD W (.arr true z2 (.ints .i64 a)) v2 F2 ∧ RepD W (.arr true z3 (.ints .i64 b)) v3 F3 ∧ RepD W (.arr true z4 (.ints .i64 c)) v4 F4 ∧
      (l.length : Int) ≤ 1048576 ∧ (a.length : Int) ≤ 1048576 ∧ (b.length : Int) ≤ 1048576 ∧ (c.length : Int) ≤ 1048576 := by
  unfold okSt at hok
  split at hok
  · rename_i r0 z1 l z2 a z3 b z4 c
    simp only [Bool.and_eq_true, decide_eq_true_eq] at hok
    simp only [dsO, RepDs] at hr
    obtain ⟨u0, us0, G0, H0, rfl, rfl, h0, u1, us1, G1, H1, rfl, rfl, h1, u2, us2, G2, H2, rfl, rfl, h2, u3, us3, G3, H3, rfl, rfl, h3, u4, us4, G4, H4, rfl, rfl, h4, rfl, rfl⟩ := hr
    simp only [RepD] at h0
    obtain ⟨rfl, rfl⟩ := h0
    exact ⟨_, u1, u2, u3, u4, G1, G2, G3, G4, z1, z2, z3, z4, l, a, b, c, rfl, by simp, h1, h2, h3, h4, hok.1, hok.2.1, hok.2.2.1, hok.2.2.2⟩
  · cases hok
end Go.Proofs.Ytcaapedadpnjoaa
end
section
namespace Go.Proofs.Ytcaapedadpnjoaa
open Go Go.RowKit Go.Ev
structure TmI (W0 : World) (B hi : Nat) (uss : List (List Value)) (i : Nat) (kk : Int) (W : World) : Prop where
  own : ∃ lo, B < lo ∧ qaf W lo (uss.drop i) hi
  row : ∀ j, i ≤ j → j < uss.length → W.rangeAt B (j * 5) (uss.getD j [])
  ther : W.there B 0 (uss.length * 5)
  fr : Fr (fun b _ => B ≤ b ∧ b < hi) W0 W
  hB : B < hi ∧ hi ≤ W.heap.size
  k0 : 0 ≤ kk
  k1 : kk ≤ 1 + (i : Int) * 6300000
theorem TmI.at {W0 W : World} {B hi i : Nat} {uss : List (List Value)} {kk : Int} (I : TmI W0 B hi uss i kk W) (hi' : i < uss.length) :
    ∃ lo mid F r, B < lo ∧ okSt r = true ∧ RepDs W (dsO r) (uss.getD i []) F ∧ Ev.Sep F ∧ (∀ b off, ownOf F b off → lo ≤ b ∧ b < mid) ∧ lo ≤ mid ∧ mid ≤ hi ∧ qaf W mid (uss.drop (i + 1)) hi := by
  obtain ⟨lo, h1, h2⟩ := I.own
  rw [qeb hi' []] at h2
  obtain ⟨mid, F, r, a1, a2, a3, a4, a5, a6⟩ := h2
  exact ⟨lo, mid, F, r, h1, a1, a2, a3, a4, a5, a6.le, a6⟩
theorem qd3 {N : Nat → Nat → Prop} {W W' : World} {b o : Nat} {v : Value} (f : Fr N W W') (h : W.cell? ⟨b, o, none⟩ = some v) (hn : ¬ N b o) : W'.cell? ⟨b, o, none⟩ = some v := f.cell h hn
end Go.Proofs.Ytcaapedadpnjoaa
end
section
namespace Go.Proofs.Ytcaapedadpnjoaa
open Go Go.RowKit Go.Ev
theorem qng {M : Nat → Nat → Prop} {W W' : World} {b o n : Nat} (f : Fr M W W') (h : W.there b o n) : W'.there b o n := fun j hj => by
  obtain ⟨v, hv⟩ := Option.isSome_iff_exists.1 (h j hj).1
  have hb := World.block_lt_of_cell? W _ hv
  refine ⟨?_, by rw [f.frozen hb]; exact (h j hj).2⟩
  rcases f.shell b hb with ⟨c, c', t, z, h1, h2, h3, _⟩ | h1 | ⟨m1, t1, m2, t2, h1, h2, _⟩
  · simp only [World.cell?, h1] at hv
    obtain ⟨hlt, _⟩ := Array.getElem?_eq_some_iff.1 hv
    simp only [World.cell?, h2]
    rw [Array.getElem?_eq_getElem (by rw [h3]; exact hlt)]; rfl
  · simp only [World.cell?] at hv ⊢
    rw [h1, hv]; rfl
  · simp [World.cell?, h1] at hv
theorem TmI.next {W0 W W' : World} {B hi i : Nat} {uss : List (List Value)} {kk kk' : Int} (I : TmI W0 B hi uss i kk W) (hi' : i < uss.length) {lo mid : Nat} (hlo : B < lo) (hle : lo ≤ mid) (hm : mid ≤ hi) (ho : qaf W mid (uss.drop (i + 1)) hi) (h5 : ∀ us ∈ uss, us.length = 5)
    (f : Fr (fun b off => (b = B ∧ off = i * 5) ∨ (lo ≤ b ∧ b < mid)) W W') (hk : kk ≤ kk' ∧ kk' ≤ kk + 6300000) : TmI W0 B hi uss (i + 1) kk' W' := by
  refine ⟨⟨mid, by omega, ho.frame f fun b off h1 h2 h => by rcases h with h | h <;> omega⟩, fun j hj hj' => ?_, qng f I.ther, ?_, ⟨I.hB.1, Nat.le_trans I.hB.2 f.size⟩, by have := I.k0; omega, by have := I.k1; omega⟩
  · intro c v hv
    have := I.row j (by omega) hj' c v hv
    have hc : c < 5 := by
      have := (List.getElem?_eq_some_iff.1 hv).1
      have h5' := h5 _ (qg7 hj' [])
      omega
    exact f.cell this fun h => by
      rcases h with ⟨_, h⟩ | ⟨h, _⟩
      · have h : j * 5 + c = i * 5 := h
        omega
      · have h : lo ≤ B := h
        omega
  · refine I.fr.trans (f.mono fun b off _ h => ?_)
    have := I.hB.1
    rcases h with ⟨rfl, _⟩ | h
    · exact ⟨Nat.le_refl _, this⟩
    · exact ⟨by omega, by omega⟩
end Go.Proofs.Ytcaapedadpnjoaa
end
section
namespace Go.Proofs.Ytcaapedadpnjoaa
open Go Go.RowKit Go.Ev
theorem qar {w : World} {z : Bool} {a : Arr} {v : Value} {F : Feet} (h : RepD w (.arr true z a) v F) : ∀ A ∈ F, A.1 = true := by
  simp only [RepD] at h
  obtain ⟨p, _, _, rfl⟩ := h
  intro A hA
  rw [List.mem_singleton.1 hA]
theorem qk2 {F G : Feet} {b off : Nat} (h : ownOf F b off) : ownOf (F ++ G) b off := by
  obtain ⟨A, hA, h1, h2⟩ := h
  exact ⟨A, List.mem_append_left _ hA, h1, h2⟩
theorem qk3 {F G : Feet} {b off : Nat} (h : ownOf G b off) : ownOf (F ++ G) b off := by
  obtain ⟨A, hA, h1, h2⟩ := h
  exact ⟨A, List.mem_append_right _ hA, h1, h2⟩
theorem qmp {F G : Feet} (h : Ev.Sep (F ++ G)) (hF : ∀ A ∈ F, A.1 = true) {b off : Nat} (hg : ownOf G b off) : ¬ ownOf F b off := by
  rintro ⟨A, hA, h1, h2⟩
  obtain ⟨C, hC, h3, h4⟩ := hg
  exact (List.pairwise_append.1 h).2.2 A hA C hC (.inl h1) b off h2 h4
theorem qmq {F G : Feet} (h : Ev.Sep (F ++ G)) : Ev.Sep G := (List.pairwise_append.1 h).2.1
theorem qk0 {N : Nat → Nat → Prop} {W W' : World} {d : D} {v : Value} {F : Feet} (h : RepD W d v F) (o : ∀ A ∈ F, A.1 = true) (f : Fr N W W') (hn : ∀ b off, ownOf F b off → ¬ N b off) : RepD W' d v F :=
  RepD.frame f d h fun A hA b off h1 => hn b off ⟨A, hA, o A hA, h1⟩
set_option maxRecDepth 100000 in
set_option maxHeartbeats 4000000 in
theorem qnk {W0 W : World} {B hi : Nat} {uss : List (List Value)} (hn : uss.length ≤ 1048576) (h5 : ∀ us ∈ uss, us.length = 5) (I : TmI W0 B hi uss 0 1 W) :
    Calls Try.prog 27 #[.slice (some ⟨B, 0, none⟩) uss.length uss.length, .int .i64 1] W fun e W' => ∃ kk, e = .returned (.int .i64 kk) ∧ 0 ≤ kk ∧ Fr (fun b _ => B ≤ b ∧ b < hi) W0 W' := by
  go_enter Try.func27, Try.ntmps27
  go_wp2
  go_loopw [1, 5] (fun k i wr => ∃ (kk : Int) (j : Nat), j ≤ uss.length ∧ k = .int .i64 kk ∧ i = .int .i64 j ∧ TmI W0 B hi uss j kk wr) (fun k i _ => uss.length - (RowKit.intOf i).toNat)
  case atStart => exact ⟨1, 0, Nat.zero_le _, rfl, rfl, I⟩
  case round =>
    obtain ⟨kk, i, hil, rfl, rfl, hI⟩ := hrel
    by_cases hlt : i < uss.length
    · obtain ⟨lo, mid, F, r, hlo, hok, hr, hs, hF, hle, hm, hO⟩ := hI.at hlt
      obtain ⟨n0, v1, v2, v3, v4, F1, F2, F3, F4, z1, z2, z3, z4, l, a, b, c, hus, rfl, r1, r2, r3, r4, l1, l2, l3, l4⟩ := qlj hok hr hs
      have row := hI.row i (Nat.le_refl _) hlt
      rw [hus] at row
      have c0 : wr.cell? ⟨B, i * 5, none⟩ = some n0 := row 0 n0 rfl
      have c1 := row 1 v1 rfl
      have c2 := row 2 v2 rfl
      have c3 := row 3 v3 rfl
      have c4 := row 4 v4 rfl
      have th := hI.ther (i * 5) (by omega)
      rw [Nat.zero_add] at th
      have fz : wr.frozen? ⟨B, i * 5, none⟩ = false := th.2
      have k0 := hI.k0; have k1 := hI.k1
      have kb : kk ≤ 6700000000000 := by omega
      have w1 : IntKind.i64.wrap (kk + 1) = kk + 1 := by rw [IntKind.wrap_i64]; omega
      have fa : Fr (Span B (i * 5) 1) wr (wr.setCell ⟨B, i * 5, none⟩ (.int .i64 kk)) := qg4 (vs := [.int .i64 kk]) (fun j hj => by
        have : j = 0 := by simpa using hj
        subst this
        exact th) (by simp [Value.oneCell'])
      have o1 := qar r1; have o2 := qar r2; have o3 := qar r3; have o4 := qar r4
      have d1 : ∀ b off, ownOf F1 b off → lo ≤ b ∧ b < mid := fun b off h => hF b off (qk2 h)
      have d2 : ∀ b off, ownOf F2 b off → lo ≤ b ∧ b < mid := fun b off h => hF b off (qk3 (qk2 h))
      have d3 : ∀ b off, ownOf F3 b off → lo ≤ b ∧ b < mid := fun b off h => hF b off (qk3 (qk3 (qk2 h)))
      have d4 : ∀ b off, ownOf F4 b off → lo ≤ b ∧ b < mid := fun b off h => hF b off (qk3 (qk3 (qk3 h)))
      have s1 : ∀ b off, ownOf F1 b off → ¬ Span B (i * 5) 1 b off := fun b off h hs => by have := (d1 b off h).1; have := hs.1; omega
      have s2 : ∀ b off, ownOf F2 b off → ¬ Span B (i * 5) 1 b off := fun b off h hs => by have := (d2 b off h).1; have := hs.1; omega
      have s3 : ∀ b off, ownOf F3 b off → ¬ Span B (i * 5) 1 b off := fun b off h hs => by have := (d3 b off h).1; have := hs.1; omega
      have s4 : ∀ b off, ownOf F4 b off → ¬ Span B (i * 5) 1 b off := fun b off h hs => by have := (d4 b off h).1; have := hs.1; omega
      have r1 := qk0 r1 o1 fa s1; have r2 := qk0 r2 o2 fa s2; have r3 := qk0 r3 o3 fa s3; have r4 := qk0 r4 o4 fa s4
      have c1 := qd3 fa c1 (fun h => by have := h.2.2; omega); have c2 := qd3 fa c2 (fun h => by have := h.2.2; omega)
      have c3 := qd3 fa c3 (fun h => by have := h.2.2; omega); have c4 := qd3 fa c4 (fun h => by have := h.2.2; omega)
      go_wp2_with (go_at_call 62; refine (qjn r1 l1 (by omega) (by omega)).mono ?_)
      rintro e W1 ⟨rfl, f1⟩
      have a12 := fun b off => qmp hs o1 (b := b) (off := off)
      have hs2 := qmq hs
      have a23 := fun b off => qmp hs2 o2 (b := b) (off := off)
      have a34 := fun b off => qmp (qmq hs2) o3 (b := b) (off := off)
      have r2 := qk0 r2 o2 f1 (fun b off h => a12 b off (qk2 h)); have r3 := qk0 r3 o3 f1 (fun b off h => a12 b off (qk3 (qk2 h))); have r4 := qk0 r4 o4 f1 (fun b off h => a12 b off (qk3 (qk3 h)))
      have c2 := qd3 f1 c2 (fun h => by have := (d1 _ _ h).1; omega); have c3 := qd3 f1 c3 (fun h => by have := (d1 _ _ h).1; omega); have c4 := qd3 f1 c4 (fun h => by have := (d1 _ _ h).1; omega)
      have w2 : IntKind.i64.wrap (kk + 1 + 3 * (l.length : Int)) = kk + 1 + 3 * l.length := by rw [IntKind.wrap_i64]; omega
      go_wp2_with (go_at_call 28; refine (qjo r2 l2 (by omega) (by omega)).mono ?_)
      rintro e W2 ⟨rfl, f2⟩
      have r3 := qk0 r3 o3 f2 (fun b off h => a23 b off (qk2 h)); have r4 := qk0 r4 o4 f2 (fun b off h => a23 b off (qk3 h))
      have c3 := qd3 f2 c3 (fun h => by have := (d2 _ _ h).1; omega); have c4 := qd3 f2 c4 (fun h => by have := (d2 _ _ h).1; omega)
      go_wp2_with (go_at_call 28; refine (qjo r3 l3 (by omega) (by omega)).mono ?_)
      rintro e W3 ⟨rfl, f3⟩
      have r4 := qk0 r4 o4 f3 (fun b off h => a34 b off h)
      have c4 := qd3 f3 c4 (fun h => by have := (d3 _ _ h).1; omega)
      go_wp2_with (go_at_call 28; refine (qjo r4 l4 (by omega) (by omega)).mono ?_)
      rintro e W4 ⟨rfl, f4⟩
      have ff : Fr (fun b off => (b = B ∧ off = i * 5) ∨ (lo ≤ b ∧ b < mid)) wr W4 :=
        (fa.mono fun b off _ h => .inl ⟨h.1, by have := h.2; omega⟩).trans ((f1.mono fun b off _ h => .inr (d1 b off h)).trans ((f2.mono fun b off _ h => .inr (d2 b off h)).trans ((f3.mono fun b off _ h => .inr (d3 b off h)).trans (f4.mono fun b off _ h => .inr (d4 b off h)))))
      have nx := hI.next hlt hlo hle hm hO h5 ff (kk' := kk + 1 + 3 * l.length + a.length + b.length + c.length) ⟨by omega, by omega⟩
      clear r1 r2 r3 r4 c1 c2 c3 c4 f1 f2 f3 f4 fa ff hI hr
      go_wp2
      go_roundw
      case rel => exact ⟨_, i + 1, by omega, rfl, by go_num, nx⟩
      case measure => simp [RowKit.intOf]; omega
    · obtain rfl : i = uss.length := by omega
      go_wp2
      go_ret
      exact ⟨kk, rfl, hI.k0, hI.fr⟩
end Go.Proofs.Ytcaapedadpnjoaa
end
section
namespace Go.Proofs.Ytcaapedadpnjoaa
open Go.Ev
set_option maxRecDepth 20000
def ql7 (x0 x1 : Int) (z2 : Bool) (l3 : List (List RC)) : St := ⟨fill 27 [(0, (.sl 0 none)), (1, (.int .i64 (x0))), (5, (.int .i64 (x1)))], [], [(.rows false (z2) [.n, .r3, .is, .is, .is] (l3))]⟩
theorem qft (k : Nat) (az : Bool) (a : List (List RC)) (b : Int) : go (k + 1) laws_szStateS [(.rows (az) [.n, .r3, .is, .is, .is] (a)), (.int .i64 (b))] =
 cond (decide (IntKind.wrap .i64 (b - nI (List.length a)) < (0 : Int)))
 (some [(.int .i64 ((-1 : Int)))])
 (lp k laws_szStateS [] [] 5 k (ql7 (IntKind.wrap .i64 (b - nI (List.length a))) (0 : Int) az a)) := by kernel_rfl
theorem qh3 (k n : Nat) (fu : List (Nat × Nat)) (x0 x1 : Int) (z2 : Bool) (l3 : List (List RC)) : lp k laws_szStateS [] fu 5 (n + 1) (ql7 x0 x1 z2 l3) =
 cond (decide (x1 < nI (List.length l3)))
 (cond (decide ((0 : Int) ≤ x1) && decide (x1 < nI (List.length l3)))
 ((go k laws_szState [(.agg [(.int .i64 (RC.num (rcAt (rrow l3 (Int.toNat x1)) 0))), (.arr false (RC.nil (rcAt (rrow l3 (Int.toNat x1)) 1)) (.r3 (RC.r3s (rcAt (rrow l3 (Int.toNat x1)) 1)))), (.arr false (RC.nil (rcAt (rrow l3 (Int.toNat x1)) 2)) (.ints .i64 (RC.ints (rcAt (rrow l3 (Int.toNat x1)) 2)))), (.arr false (RC.nil (rcAt (rrow l3 (Int.toNat x1)) 3)) (.ints .i64 (RC.ints (rcAt (rrow l3 (Int.toNat x1)) 3)))), (.arr false (RC.nil (rcAt (rrow l3 (Int.toNat x1)) 4)) (.ints .i64 (RC.ints (rcAt (rrow l3 (Int.toNat x1)) 4))))]), (.int .i64 (x0))]).bind fun r0 =>
 cond (decide (D.toInt (nth r0 0) < (0 : Int)))
 (some [(.int .i64 ((-1 : Int)))])
 (lp k laws_szStateS [] fu 5 n (ql7 (D.toInt (nth r0 0)) (IntKind.wrap .i64 (x1 + (1 : Int))) z2 l3)))
 (none))
 (some [(.int .i64 (x0))]) := by kernel_rfl
def ql1 (x0 : Int) (z1 : Bool) (l2 : List (List RC)) (z3 : Bool) (l4 : List (List RC)) : St := ⟨fill 27 [(0, (.sl 0 none)), (1, (.sl 1 none)), (5, (.int .i64 (x0)))], [], [(.rows false (z1) [.n, .r3, .is, .is, .is] (l2)), (.rows false (z3) [.n, .r3, .is, .is, .is] (l4))]⟩
theorem qfj (k : Nat) (az : Bool) (a : List (List RC)) (bz : Bool) (b : List (List RC)) : go (k + 1) laws_eqStateS [(.rows (az) [.n, .r3, .is, .is, .is] (a)), (.rows (bz) [.n, .r3, .is, .is, .is] (b))] =
 cond (!decide (nI (List.length a) = nI (List.length b)))
 (some [(.bool (false))])
 (lp k laws_eqStateS [] [] 4 k (ql1 (0 : Int) az a bz b)) := by kernel_rfl
theorem qhx (k n : Nat) (fu : List (Nat × Nat)) (x0 : Int) (z1 : Bool) (l2 : List (List RC)) (z3 : Bool) (l4 : List (List RC)) : lp k laws_eqStateS [] fu 4 (n + 1) (ql1 x0 z1 l2 z3 l4) =
 cond (decide (x0 < nI (List.length l2)))
 (cond (decide ((0 : Int) ≤ x0) && decide (x0 < nI (List.length l2)))
 (cond (decide ((0 : Int) ≤ x0) && decide (x0 < nI (List.length l4)))
 ((go k laws_eqState [(.agg [(.int .i64 (RC.num (rcAt (rrow l2 (Int.toNat x0)) 0))), (.arr false (RC.nil (rcAt (rrow l2 (Int.toNat x0)) 1)) (.r3 (RC.r3s (rcAt (rrow l2 (Int.toNat x0)) 1)))), (.arr false (RC.nil (rcAt (rrow l2 (Int.toNat x0)) 2)) (.ints .i64 (RC.ints (rcAt (rrow l2 (Int.toNat x0)) 2)))), (.arr false (RC.nil (rcAt (rrow l2 (Int.toNat x0)) 3)) (.ints .i64 (RC.ints (rcAt (rrow l2 (Int.toNat x0)) 3)))), (.arr false (RC.nil (rcAt (rrow l2 (Int.toNat x0)) 4)) (.ints .i64 (RC.ints (rcAt (rrow l2 (Int.toNat x0)) 4))))]), (.agg [(.int .i64 (RC.num (rcAt (rrow l4 (Int.toNat x0)) 0))), (.arr false (RC.nil (rcAt (rrow l4 (Int.toNat x0)) 1)) (.r3 (RC.r3s (rcAt (rrow l4 (Int.toNat x0)) 1)))), (.arr false (RC.nil (rcAt (rrow l4 (Int.toNat x0)) 2)) (.ints .i64 (RC.ints (rcAt (rrow l4 (Int.toNat x0)) 2)))), (.arr false (RC.nil (rcAt (rrow l4 (Int.toNat x0)) 3)) (.ints .i64 (RC.ints (rcAt (rrow l4 (Int.toNat x0)) 3)))), (.arr false (RC.nil (rcAt (rrow l4 (Int.toNat x0)) 4)) (.ints .i64 (RC.ints (rcAt (rrow l4 (Int.toNat x0)) 4))))])]).bind fun r0 =>
 cond (!bit (nth r0 0))
 (some [(.bool (false))])
 (lp k laws_eqStateS [] fu 4 n (ql1 (IntKind.wrap .i64 (x0 + (1 : Int))) z1 l2 z3 l4)))
 (none))
 (none))
 (some [(.bool (true))]) := by kernel_rfl
def ql4 (x0 x1 : Int) (z2 : Bool) (l3 : List (List RC)) : St := ⟨fill 60 [(0, (.sl 0 none)), (1, (.int .i64 (x0))), (5, (.int .i64 (x1)))], [], [(.rows false (z2) [.n, .r3, .is, .is, .is] (l3))]⟩
theorem qfm (k : Nat) (az : Bool) (a : List (List RC)) (b : Int) : go (k + 1) laws_heldStateS [(.rows (az) [.n, .r3, .is, .is, .is] (a)), (.int .i64 (b))] =
 lp k laws_heldStateS [] [] 2 k (ql4 b (0 : Int) az a) := by kernel_rfl
theorem qh0 (k n : Nat) (fu : List (Nat × Nat)) (x0 x1 : Int) (z2 : Bool) (l3 : List (List RC)) : lp k laws_heldStateS [] fu 2 (n + 1) (ql4 x0 x1 z2 l3) =
 cond (decide (x1 < nI (List.length l3)))
 (cond (decide ((0 : Int) ≤ x1) && decide (x1 < nI (List.length l3)))
 (cond (!decide (RC.num (rcAt (rrow l3 (Int.toNat x1)) 0) = x0))
 (some [(.int .i64 ((-1 : Int)))])
 (cond (decide ((0 : Int) ≤ x1) && decide (x1 < nI (List.length l3)))
 ((go k laws_heldIdS [(.arr false (RC.nil (rcAt (rrow l3 (Int.toNat x1)) 1)) (.r3 (RC.r3s (rcAt (rrow l3 (Int.toNat x1)) 1)))), (.int .i64 (IntKind.wrap .i64 (x0 + (1 : Int))))]).bind fun r0 =>
 cond (decide (D.toInt (nth r0 0) < (0 : Int)))
 (some [(.int .i64 ((-1 : Int)))])
 (cond (decide ((0 : Int) ≤ x1) && decide (x1 < nI (List.length l3)))
 ((go k laws_heldIntS [(.arr false (RC.nil (rcAt (rrow l3 (Int.toNat x1)) 2)) (.ints .i64 (RC.ints (rcAt (rrow l3 (Int.toNat x1)) 2)))), (.int .i64 (D.toInt (nth r0 0)))]).bind fun r1 =>
 cond (decide (D.toInt (nth r1 0) < (0 : Int)))
 (some [(.int .i64 ((-1 : Int)))])
 (cond (decide ((0 : Int) ≤ x1) && decide (x1 < nI (List.length l3)))
 ((go k laws_heldIntS [(.arr false (RC.nil (rcAt (rrow l3 (Int.toNat x1)) 3)) (.ints .i64 (RC.ints (rcAt (rrow l3 (Int.toNat x1)) 3)))), (.int .i64 (D.toInt (nth r1 0)))]).bind fun r2 =>
 cond (decide (D.toInt (nth r2 0) < (0 : Int)))
 (some [(.int .i64 ((-1 : Int)))])
 (cond (decide ((0 : Int) ≤ x1) && decide (x1 < nI (List.length l3)))
 ((go k laws_heldIntS [(.arr false (RC.nil (rcAt (rrow l3 (Int.toNat x1)) 4)) (.ints .i64 (RC.ints (rcAt (rrow l3 (Int.toNat x1)) 4)))), (.int .i64 (D.toInt (nth r2 0)))]).bind fun r3 =>
 cond (decide (D.toInt (nth r3 0) < (0 : Int)))
 (some [(.int .i64 ((-1 : Int)))])
 (lp k laws_heldStateS [] fu 2 n (ql4 (D.toInt (nth r3 0)) (IntKind.wrap .i64 (x1 + (1 : Int))) z2 l3)))
 (none)))
 (none)))
 (none)))
 (none)))
 (none))
 (some [(.int .i64 (x0))]) := by kernel_rfl

end Go.Proofs.Ytcaapedadpnjoaa
end
section
namespace Go.Proofs.Ytcaapedadpnjoaa
open Go.Ev
theorem qfs (k : Nat) (a0 : Int) (a1z : Bool) (a1 : List (Int × Int × Int)) (a2z : Bool) (a2 : List Int) (a3z : Bool) (a3 : List Int) (a4z : Bool) (a4 : List Int) (b : Int) : go (k + 1) laws_szState [(.agg [(.int .i64 (a0)), (.arr false (a1z) (.r3 (a1))), (.arr false (a2z) (.ints .i64 (a2))), (.arr false (a3z) (.ints .i64 (a3))), (.arr false (a4z) (.ints .i64 (a4)))]), (.int .i64 (b))] =
 (go k laws_szMesh [(.agg [(.int .i64 (a0)), (.arr false (a1z) (.r3 (a1)))]), (.int .i64 (b))]).bind fun r0 =>
 cond (decide (D.toInt (nth r0 0) < (0 : Int)))
 (some [(.int .i64 ((-1 : Int)))])
 ((go k laws_szIntS [(.arr false (a2z) (.ints .i64 (a2))), (.int .i64 (D.toInt (nth r0 0)))]).bind fun r1 =>
 cond (decide (D.toInt (nth r1 0) < (0 : Int)))
 (some [(.int .i64 ((-1 : Int)))])
 ((go k laws_szIntS [(.arr false (a3z) (.ints .i64 (a3))), (.int .i64 (D.toInt (nth r1 0)))]).bind fun r2 =>
 cond (decide (D.toInt (nth r2 0) < (0 : Int)))
 (some [(.int .i64 ((-1 : Int)))])
 ((go k laws_szIntS [(.arr false (a4z) (.ints .i64 (a4))), (.int .i64 (D.toInt (nth r2 0)))]).bind fun r3 =>
 cond (decide (D.toInt (nth r3 0) < (0 : Int)))
 (some [(.int .i64 ((-1 : Int)))])
 (some [(.int .i64 (D.toInt (nth r3 0)))])))) := by kernel_rfl
theorem qfi (k : Nat) (a0 : Int) (a1z : Bool) (a1 : List (Int × Int × Int)) (a2z : Bool) (a2 : List Int) (a3z : Bool) (a3 : List Int) (a4z : Bool) (a4 : List Int) (b0 : Int) (b1z : Bool) (b1 : List (Int × Int × Int)) (b2z : Bool) (b2 : List Int) (b3z : Bool) (b3 : List Int) (b4z : Bool) (b4 : List Int) : go (k + 1) laws_eqState [(.agg [(.int .i64 (a0)), (.arr false (a1z) (.r3 (a1))), (.arr false (a2z) (.ints .i64 (a2))), (.arr false (a3z) (.ints .i64 (a3))), (.arr false (a4z) (.ints .i64 (a4)))]), (.agg [(.int .i64 (b0)), (.arr false (b1z) (.r3 (b1))), (.arr false (b2z) (.ints .i64 (b2))), (.arr false (b3z) (.ints .i64 (b3))), (.arr false (b4z) (.ints .i64 (b4)))])] =
 (go k laws_eqMesh [(.agg [(.int .i64 (a0)), (.arr false (a1z) (.r3 (a1)))]), (.agg [(.int .i64 (b0)), (.arr false (b1z) (.r3 (b1)))])]).bind fun r0 =>
 cond (!bit (nth r0 0))
 (some [(.bool (false))])
 ((go k laws_eqIntS [(.arr false (a2z) (.ints .i64 (a2))), (.arr false (b2z) (.ints .i64 (b2)))]).bind fun r1 =>
 cond (!bit (nth r1 0))
 (some [(.bool (false))])
 ((go k laws_eqIntS [(.arr false (a3z) (.ints .i64 (a3))), (.arr false (b3z) (.ints .i64 (b3)))]).bind fun r2 =>
 cond (!bit (nth r2 0))
 (some [(.bool (false))])
 ((go k laws_eqIntS [(.arr false (a4z) (.ints .i64 (a4))), (.arr false (b4z) (.ints .i64 (b4)))]).bind fun r3 =>
 cond (!bit (nth r3 0))
 (some [(.bool (false))])
 (some [(.bool (true))])))) := by kernel_rfl
def ql2 (x0 x1 : Int) (z2 : Bool) (l3 : List (Int × Int × Int)) : St := ⟨fill 40 [(0, (.sl 0 none)), (1, (.int .i64 (x0))), (5, (.int .i64 (x1)))], [], [(.arr false (z2) (.r3 (l3)))]⟩
theorem qfk (k : Nat) (az : Bool) (a : List (Int × Int × Int)) (b : Int) : go (k + 1) laws_heldIdS [(.arr false (az) (.r3 (a))), (.int .i64 (b))] =
 lp k laws_heldIdS [] [] 2 k (ql2 b (0 : Int) az a) := by kernel_rfl
theorem qhy (k n : Nat) (fu : List (Nat × Nat)) (x0 x1 : Int) (z2 : Bool) (l3 : List (Int × Int × Int)) : lp k laws_heldIdS [] fu 2 (n + 1) (ql2 x0 x1 z2 l3) =
 cond (decide (x1 < nI (List.length l3)))
 (cond (decide ((0 : Int) ≤ x1) && decide (x1 < nI (List.length l3)))
 (cond (!decide (Prod.fst (List.getD l3 (Int.toNat x1) zz3) = x0))
 (some [(.int .i64 ((-1 : Int)))])
 (cond (decide ((0 : Int) ≤ x1) && decide (x1 < nI (List.length l3)))
 (cond (!decide (Prod.fst (Prod.snd (List.getD l3 (Int.toNat x1) zz3)) = IntKind.wrap .i64 (x0 + (1 : Int))))
 (some [(.int .i64 ((-1 : Int)))])
 (cond (decide ((0 : Int) ≤ x1) && decide (x1 < nI (List.length l3)))
 (cond (!decide (Prod.snd (Prod.snd (List.getD l3 (Int.toNat x1) zz3)) = IntKind.wrap .i64 (IntKind.wrap .i64 (x0 + (1 : Int)) + (1 : Int))))
 (some [(.int .i64 ((-1 : Int)))])
 (lp k laws_heldIdS [] fu 2 n (ql2 (IntKind.wrap .i64 (IntKind.wrap .i64 (IntKind.wrap .i64 (x0 + (1 : Int)) + (1 : Int)) + (1 : Int))) (IntKind.wrap .i64 (x1 + (1 : Int))) z2 l3)))
 (none)))
 (none)))
 (none))
 (some [(.int .i64 (x0))]) := by kernel_rfl

end Go.Proofs.Ytcaapedadpnjoaa
end
section
namespace Go.Proofs.Ytcaapedadpnjoaa
open Go.Ev
theorem qcd (k : Nat) (hk : 2000000 ≤ k) (a0 : Int) (a1z : Bool) (a1 : List (Int × Int × Int)) (a2z : Bool) (a2 : List Int) (a3z : Bool) (a3 : List Int) (a4z : Bool) (a4 : List Int) (b : Int) (h1 : (a1.length : Int) ≤ 9223372036854775807) (h2 : (a2.length : Int) ≤ 9223372036854775807) (h3 : (a3.length : Int) ≤ 9223372036854775807) (h4 : (a4.length : Int) ≤ 9223372036854775807) (hb : 0 ≤ b) (hb' : b ≤ 1048576) :
    go (k + 3) laws_szState [(.agg [(.int .i64 (a0)), (.arr false (a1z) (.r3 (a1))), (.arr false (a2z) (.ints .i64 (a2))), (.arr false (a3z) (.ints .i64 (a3))), (.arr false (a4z) (.ints .i64 (a4)))]), (.int .i64 (b))] = some [.int .i64 (if (a1.length : Int) + a2.length + a3.length + a4.length ≤ b then b - a1.length - a2.length - a3.length - a4.length else -1)] := by
  rw [qfs]
  by_cases g1 : (a1.length : Int) ≤ b
  case neg => rw [if_neg (c := (a1.length : Int) + a2.length + a3.length + a4.length ≤ b) (by omega)]; simp (disch := omega) only [qaw, nth0, nth1, nth2, nth3, bit, qde, qdf, qdq, qdv, qdw, qdx, qdy, qdz, qd0, qd1, qdg, qdh, qdi, qdj, qdk, qdl, qdm, qdn, qdo, qdp, qdr, qds, qdt, qdu, qnn, qnm, qno, qko, qlb, qlc, qhh, qax, qm5, nI, qd7, qd5, Bool.not_true, Bool.not_false, Bool.and_true, Bool.true_and, Bool.and_false, Bool.false_and, Bool.or_true, Bool.true_or, Bool.or_false, Bool.false_or, beq_self_eq_true, dTT, dFF, dT, dF, bigI, big0, qkn, qn7, qn8, List.length_set, List.length_replicate, Int.toNat_natCast, qdc, qdd, imax, imin, qcc, if_neg g1]
  by_cases g2 : (a2.length : Int) ≤ b - a1.length
  case neg => rw [if_neg (c := (a1.length : Int) + a2.length + a3.length + a4.length ≤ b) (by omega)]; simp (disch := omega) only [qaw, nth0, nth1, nth2, nth3, bit, qde, qdf, qdq, qdv, qdw, qdx, qdy, qdz, qd0, qd1, qdg, qdh, qdi, qdj, qdk, qdl, qdm, qdn, qdo, qdp, qdr, qds, qdt, qdu, qnn, qnm, qno, qko, qlb, qlc, qhh, qax, qm5, nI, qd7, qd5, Bool.not_true, Bool.not_false, Bool.and_true, Bool.true_and, Bool.and_false, Bool.false_and, Bool.or_true, Bool.true_or, Bool.or_false, Bool.false_or, beq_self_eq_true, dTT, dFF, dT, dF, bigI, big0, qkn, qn7, qn8, List.length_set, List.length_replicate, Int.toNat_natCast, qdc, qdd, imax, imin, qcc, qcb, if_pos g1, if_neg g2]
  by_cases g3 : (a3.length : Int) ≤ b - a1.length - a2.length
  case neg => rw [if_neg (c := (a1.length : Int) + a2.length + a3.length + a4.length ≤ b) (by omega)]; simp (disch := omega) only [qaw, nth0, nth1, nth2, nth3, bit, qde, qdf, qdq, qdv, qdw, qdx, qdy, qdz, qd0, qd1, qdg, qdh, qdi, qdj, qdk, qdl, qdm, qdn, qdo, qdp, qdr, qds, qdt, qdu, qnn, qnm, qno, qko, qlb, qlc, qhh, qax, qm5, nI, qd7, qd5, Bool.not_true, Bool.not_false, Bool.and_true, Bool.true_and, Bool.and_false, Bool.false_and, Bool.or_true, Bool.true_or, Bool.or_false, Bool.false_or, beq_self_eq_true, dTT, dFF, dT, dF, bigI, big0, qkn, qn7, qn8, List.length_set, List.length_replicate, Int.toNat_natCast, qdc, qdd, imax, imin, qcc, qcb, if_pos g1, if_pos g2, if_neg g3]
  by_cases g4 : (a4.length : Int) ≤ b - a1.length - a2.length - a3.length
  case neg => rw [if_neg (c := (a1.length : Int) + a2.length + a3.length + a4.length ≤ b) (by omega)]; simp (disch := omega) only [qaw, nth0, nth1, nth2, nth3, bit, qde, qdf, qdq, qdv, qdw, qdx, qdy, qdz, qd0, qd1, qdg, qdh, qdi, qdj, qdk, qdl, qdm, qdn, qdo, qdp, qdr, qds, qdt, qdu, qnn, qnm, qno, qko, qlb, qlc, qhh, qax, qm5, nI, qd7, qd5, Bool.not_true, Bool.not_false, Bool.and_true, Bool.true_and, Bool.and_false, Bool.false_and, Bool.or_true, Bool.true_or, Bool.or_false, Bool.false_or, beq_self_eq_true, dTT, dFF, dT, dF, bigI, big0, qkn, qn7, qn8, List.length_set, List.length_replicate, Int.toNat_natCast, qdc, qdd, imax, imin, qcc, qcb, if_pos g1, if_pos g2, if_pos g3, if_neg g4]
  rw [if_pos (c := (a1.length : Int) + a2.length + a3.length + a4.length ≤ b) (by omega)]; simp (disch := omega) only [qaw, nth0, nth1, nth2, nth3, bit, qde, qdf, qdq, qdv, qdw, qdx, qdy, qdz, qd0, qd1, qdg, qdh, qdi, qdj, qdk, qdl, qdm, qdn, qdo, qdp, qdr, qds, qdt, qdu, qnn, qnm, qno, qko, qlb, qlc, qhh, qax, qm5, nI, qd7, qd5, Bool.not_true, Bool.not_false, Bool.and_true, Bool.true_and, Bool.and_false, Bool.false_and, Bool.or_true, Bool.true_or, Bool.or_false, Bool.false_or, beq_self_eq_true, dTT, dFF, dT, dF, bigI, big0, qkn, qn7, qn8, List.length_set, List.length_replicate, Int.toNat_natCast, qdc, qdd, imax, imin, qcc, qcb, if_pos g1, if_pos g2, if_pos g3, if_pos g4]
theorem qb2 (k : Nat) (hk : 2000000 ≤ k) (r : Int) (z1 z2 z3 z4 y1 y2 y3 y4 : Bool) (l : List Cell) (m t b : List Int) (h1 : (l.length : Int) ≤ 1048576) (h2 : (m.length : Int) ≤ 1048576) (h3 : (t.length : Int) ≤ 1048576) (h4 : (b.length : Int) ≤ 1048576) :
    go (k + 4) laws_eqState [.agg [.int .i64 r, .arr false z1 (.r3 l), .arr false z2 (.ints .i64 m), .arr false z3 (.ints .i64 t), .arr false z4 (.ints .i64 b)], .agg [.int .i64 r, .arr false y1 (.r3 l), .arr false y2 (.ints .i64 m), .arr false y3 (.ints .i64 t), .arr false y4 (.ints .i64 b)]] = some [.bool true] := by
  rw [qfi]
  simp (disch := omega) only [qaw, nth0, nth1, nth2, nth3, bit, qde, qdf, qdq, qdv, qdw, qdx, qdy, qdz, qd0, qd1, qdg, qdh, qdi, qdj, qdk, qdl, qdm, qdn, qdo, qdp, qdr, qds, qdt, qdu, qnn, qnm, qno, qko, qlb, qlc, qhh, qax, qm5, nI, qd7, qd5, Bool.not_true, Bool.not_false, Bool.and_true, Bool.true_and, Bool.and_false, Bool.false_and, Bool.or_true, Bool.true_or, Bool.or_false, Bool.false_or, beq_self_eq_true, dTT, dFF, dT, dF, bigI, big0, qkn, qn7, qn8, List.length_set, List.length_replicate, Int.toNat_natCast, qdc, qdd, imax, imin, qb1, qb0]
end Go.Proofs.Ytcaapedadpnjoaa
end
section
namespace Go.Proofs.Ytcaapedadpnjoaa
open Go.Ev
set_option maxRecDepth 20000
def qlp (x0 x1 : Int) (z2 : Bool) (l3 : List Int) (z4 : Bool) (l5 : List Int) (z6 : Bool) (l7 : List (List RC)) : St := ⟨fill 66 [(5, (.sl 0 none)), (6, (.sl 1 none)), (30, (.sl 2 none)), (31, (.int .i64 (x0))), (32, (.int .i64 (x1)))], [], [(.arr true (z2) (.ints .i64 (l3))), (.arr true (z4) (.ints .i64 (l5))), (.rows false (z6) [.n, .r3, .is, .is, .is] (l7))]⟩
def qlq (x0 x1 x2 x3 : Int) (z4 : Bool) (l5 : List Int) (z6 : Bool) (l7 : List Int) (z8 : Bool) (l9 : List (List RC)) (z10 : Bool) (l11 : List Int) : St := ⟨fill 66 [(5, (.sl 0 none)), (6, (.sl 1 none)), (30, (.sl 2 none)), (31, (.int .i64 (x0))), (32, (.int .i64 (x1))), (37, (.sl 3 none)), (38, (.int .i64 (x2))), (39, (.int .i64 (x3)))], [], [(.arr true (z4) (.ints .i64 (l5))), (.arr true (z6) (.ints .i64 (l7))), (.rows false (z8) [.n, .r3, .is, .is, .is] (l9)), (.arr false (z10) (.ints .i64 (l11)))]⟩
theorem qei (k : Nat) (az : Bool) (a : List (List RC)) : go (k + 1) impl_EnvelopeOf [(.rows (az) [.n, .r3, .is, .is, .is] (a))] =
 (go k impl_within [(.int .i64 (nI (List.length a))), (.int .i64 ((1 : Int))), (.int .i64 ((100 : Int)))]).bind fun r0 =>
 cond (!bit (nth r0 0))
 (some [(.arr true (true) (.ints .i64 ([]))), (.arr true (true) (.ints .i64 ([]))), (.bool (false))])
 ((go k slices_ContainsFunc_impl_State_impl_State [(.rows (az) [.n, .r3, .is, .is, .is] (a)), (.fn impl_EnvelopeOf_1 [(.ptr false [(.rows (az) [.n, .r3, .is, .is, .is] (a))])])]).bind fun r1 =>
 cond (bit (nth r1 0))
 (some [(.arr true (true) (.ints .i64 ([]))), (.arr true (true) (.ints .i64 ([]))), (.bool (false))])
 (cond (decide ((0 : Int) ≤ (0 : Int)) && decide ((0 : Int) < nI (List.length a)))
 ((go k slices_Clone_int_int [(.arr false (RC.nil (rcAt (rrow a (Int.toNat (0 : Int))) 2)) (.ints .i64 (RC.ints (rcAt (rrow a (Int.toNat (0 : Int))) 2))))]).bind fun r2 =>
 cond (decide ((0 : Int) ≤ (0 : Int)) && decide ((0 : Int) < nI (List.length a)))
 ((go k slices_Clone_int_int [(.arr false (RC.nil (rcAt (rrow a (Int.toNat (0 : Int))) 2)) (.ints .i64 (RC.ints (rcAt (rrow a (Int.toNat (0 : Int))) 2))))]).bind fun r3 =>
 lp k impl_EnvelopeOf [] [] 5 k (qlp (nI (List.length a)) (0 : Int) (D.nil (nth r2 0)) (D.ints (nth r2 0)) (D.nil (nth r3 0)) (D.ints (nth r3 0)) az a))
 (none))
 (none))) := by kernel_rfl
theorem qhl (k n : Nat) (fu : List (Nat × Nat)) (x0 x1 : Int) (z2 : Bool) (l3 : List Int) (z4 : Bool) (l5 : List Int) (z6 : Bool) (l7 : List (List RC)) : lp k impl_EnvelopeOf [] fu 5 (n + 1) (qlp x0 x1 z2 l3 z4 l5 z6 l7) =
 cond (decide (x1 < x0))
 (cond (decide ((0 : Int) ≤ x1) && decide (x1 < nI (List.length l7)))
 (lp k impl_EnvelopeOf [] ((5, n) :: fu) 8 k (qlq x0 x1 (nI (List.length (RC.ints (rcAt (rrow l7 (Int.toNat x1)) 2)))) (0 : Int) z2 l3 z4 l5 z6 l7 (RC.nil (rcAt (rrow l7 (Int.toNat x1)) 2)) (RC.ints (rcAt (rrow l7 (Int.toNat x1)) 2))))
 (none))
 (some [(.arr true (z2) (.ints .i64 (l3))), (.arr true (z4) (.ints .i64 (l5))), (.bool (true))]) := by kernel_rfl
theorem qhm (k n : Nat) (fu : List (Nat × Nat)) (x0 x1 x2 x3 : Int) (z4 : Bool) (l5 : List Int) (z6 : Bool) (l7 : List Int) (z8 : Bool) (l9 : List (List RC)) (z10 : Bool) (l11 : List Int) : lp k impl_EnvelopeOf [] fu 8 (n + 1) (qlq x0 x1 x2 x3 z4 l5 z6 l7 z8 l9 z10 l11) =
 cond (decide (x3 < x2))
 (cond (decide ((0 : Int) ≤ x3) && decide (x3 < nI (List.length l11)))
 (cond (decide ((0 : Int) ≤ x3) && decide (x3 < nI (List.length l5)))
 (cond (decide ((0 : Int) ≤ x3) && decide (x3 < nI (List.length l7)))
 (cond (decide ((0 : Int) ≤ x3) && decide (x3 < nI (List.length l5)))
 (cond (decide ((0 : Int) ≤ x3) && decide (x3 < nI (List.length l7)))
 (lp k impl_EnvelopeOf [] fu 8 n (qlq x0 x1 x2 (IntKind.wrap .i64 (x3 + (1 : Int))) z4 (List.set l5 (Int.toNat x3) (if List.getD l11 (Int.toNat x3) (0 : Int) < List.getD l5 (Int.toNat x3) (0 : Int) then List.getD l11 (Int.toNat x3) (0 : Int) else List.getD l5 (Int.toNat x3) (0 : Int))) z6 (List.set l7 (Int.toNat x3) (if List.getD l11 (Int.toNat x3) (0 : Int) > List.getD l7 (Int.toNat x3) (0 : Int) then List.getD l11 (Int.toNat x3) (0 : Int) else List.getD l7 (Int.toNat x3) (0 : Int))) z8 l9 z10 l11))
 (none))
 (none))
 (none))
 (none))
 (none))
 (lp k impl_EnvelopeOf [] fu 5 (fuelOf fu 5) (qlp x0 (IntKind.wrap .i64 (x1 + (1 : Int))) z4 l5 z6 l7 z8 l9)) := by kernel_rfl
theorem qej (k : Nat) (v0 : Int) (v1 : Bool) (v2 : List (Int × Int × Int)) (v3 : Bool) (v4 : List Int) (v5 : Bool) (v6 : List Int) (v7 : Bool) (v8 : List Int) (v9 : Bool) (v10 : List (List RC)) : go (k + 1) impl_EnvelopeOf_1 [(.agg [(.int .i64 (v0)), (.arr false (v1) (.r3 (v2))), (.arr false (v3) (.ints .i64 (v4))), (.arr false (v5) (.ints .i64 (v6))), (.arr false (v7) (.ints .i64 (v8)))]), (.ptr false [(.rows (v9) [.n, .r3, .is, .is, .is] (v10))])] =
 (go k impl_StateOk [(.agg [(.int .i64 (v0)), (.arr false (v1) (.r3 (v2))), (.arr false (v3) (.ints .i64 (v4))), (.arr false (v5) (.ints .i64 (v6))), (.arr false (v7) (.ints .i64 (v8)))])]).bind fun r0 =>
 cond (!bit (nth r0 0))
 (some [(.bool (true))])
 (cond (decide ((0 : Int) ≤ (0 : Int)) && decide ((0 : Int) < nI (List.length v10)))
 ((go k impl_SameMesh [(.agg [(.int .i64 (v0)), (.arr false (v1) (.r3 (v2)))]), (.agg [(.int .i64 (RC.num (rcAt (rrow v10 (Int.toNat (0 : Int))) 0))), (.arr false (RC.nil (rcAt (rrow v10 (Int.toNat (0 : Int))) 1)) (.r3 (RC.r3s (rcAt (rrow v10 (Int.toNat (0 : Int))) 1))))])]).bind fun r1 =>
 some [(.bool (!bit (nth r1 0)))])
 (none)) := by kernel_rfl
theorem qf1 (k : Nat) (v0 : Bool) (v1 : List (List RC)) (v2 : Bool) (v3 : List (List RC)) : go (k + 1) slices_ContainsFunc_impl_State_impl_State [(.rows (v0) [.n, .r3, .is, .is, .is] (v1)), (.fn impl_EnvelopeOf_1 [(.ptr false [(.rows (v2) [.n, .r3, .is, .is, .is] (v3))])])] =
 (go k slices_IndexFunc_impl_State_impl_State [(.rows (v0) [.n, .r3, .is, .is, .is] (v1)), (.fn impl_EnvelopeOf_1 [(.ptr false [(.rows (v2) [.n, .r3, .is, .is, .is] (v3))])])]).bind fun r0 =>
 some [(.bool (decide ((0 : Int) ≤ D.toInt (nth r0 0))))] := by kernel_rfl
def qmb (x0 x1 : Int) (z2 : Bool) (l3 : List (List RC)) (z4 : Bool) (l5 : List (List RC)) : St := ⟨fill 19 [(0, (.sl 0 none)), (1, (.fn impl_EnvelopeOf_1 [(.ptr 2 (0) (0))])), (7, (.int .i64 (x0))), (8, (.int .i64 (x1)))], [], [(.rows false (z2) [.n, .r3, .is, .is, .is] (l3)), (.rows false (z4) [.n, .r3, .is, .is, .is] (l5)), (.box false [(.sl 1 none)])]⟩
theorem qf4 (k : Nat) (v0 : Bool) (v1 : List (List RC)) (v2 : Bool) (v3 : List (List RC)) : go (k + 1) slices_IndexFunc_impl_State_impl_State [(.rows (v0) [.n, .r3, .is, .is, .is] (v1)), (.fn impl_EnvelopeOf_1 [(.ptr false [(.rows (v2) [.n, .r3, .is, .is, .is] (v3))])])] =
 lp k slices_IndexFunc_impl_State_impl_State [] [] 2 k (qmb (nI (List.length v1)) (0 : Int) v0 v1 v2 v3) := by kernel_rfl
theorem qh7 (k n : Nat) (fu : List (Nat × Nat)) (x0 x1 : Int) (z2 : Bool) (l3 : List (List RC)) (z4 : Bool) (l5 : List (List RC)) : lp k slices_IndexFunc_impl_State_impl_State [] fu 2 (n + 1) (qmb x0 x1 z2 l3 z4 l5) =
 cond (decide (x1 < x0))
 (cond (decide ((0 : Int) ≤ x1) && decide (x1 < nI (List.length l3)))
 ((go k impl_EnvelopeOf_1 [(.agg [(.int .i64 (RC.num (rcAt (rrow l3 (Int.toNat x1)) 0))), (.arr false (RC.nil (rcAt (rrow l3 (Int.toNat x1)) 1)) (.r3 (RC.r3s (rcAt (rrow l3 (Int.toNat x1)) 1)))), (.arr false (RC.nil (rcAt (rrow l3 (Int.toNat x1)) 2)) (.ints .i64 (RC.ints (rcAt (rrow l3 (Int.toNat x1)) 2)))), (.arr false (RC.nil (rcAt (rrow l3 (Int.toNat x1)) 3)) (.ints .i64 (RC.ints (rcAt (rrow l3 (Int.toNat x1)) 3)))), (.arr false (RC.nil (rcAt (rrow l3 (Int.toNat x1)) 4)) (.ints .i64 (RC.ints (rcAt (rrow l3 (Int.toNat x1)) 4))))]), (.ptr false [(.rows (z4) [.n, .r3, .is, .is, .is] (l5))])]).bind fun r0 =>
 cond (bit (nth r0 0))
 (some [(.int .i64 (x1))])
 (lp k slices_IndexFunc_impl_State_impl_State [] fu 2 n (qmb x0 (IntKind.wrap .i64 (x1 + (1 : Int))) z2 l3 z4 l5)))
 (none))
 (some [(.int .i64 ((-1 : Int)))]) := by kernel_rfl
def qml (x0 : Int) (z1 : Bool) (l2 : List (List RC)) : St := ⟨fill 33 [(0, (.sl 0 none)), (3, (.int .i64 (x0)))], [], [(.rows false (z1) [.n, .r3, .is, .is, .is] (l2))]⟩
theorem qgs (k : Nat) (az : Bool) (a : List (List RC)) : go (k + 1) spec_l34Ask [(.rows (az) [.n, .r3, .is, .is, .is] (a))] =
 (go k spec_l01In [(.int .i64 (nI (List.length a))), (.int .i64 ((1 : Int))), (.int .i64 ((100 : Int)))]).bind fun r0 =>
 cond (!bit (nth r0 0))
 (some [(.bool (false))])
 (lp k spec_l34Ask [] [] 4 k (qml (0 : Int) az a)) := by kernel_rfl
theorem qih (k n : Nat) (fu : List (Nat × Nat)) (x0 : Int) (z1 : Bool) (l2 : List (List RC)) : lp k spec_l34Ask [] fu 4 (n + 1) (qml x0 z1 l2) =
 cond (decide (x0 < nI (List.length l2)))
 (cond (decide ((0 : Int) ≤ x0) && decide (x0 < nI (List.length l2)))
 ((go k spec_StateOk [(.agg [(.int .i64 (RC.num (rcAt (rrow l2 (Int.toNat x0)) 0))), (.arr false (RC.nil (rcAt (rrow l2 (Int.toNat x0)) 1)) (.r3 (RC.r3s (rcAt (rrow l2 (Int.toNat x0)) 1)))), (.arr false (RC.nil (rcAt (rrow l2 (Int.toNat x0)) 2)) (.ints .i64 (RC.ints (rcAt (rrow l2 (Int.toNat x0)) 2)))), (.arr false (RC.nil (rcAt (rrow l2 (Int.toNat x0)) 3)) (.ints .i64 (RC.ints (rcAt (rrow l2 (Int.toNat x0)) 3)))), (.arr false (RC.nil (rcAt (rrow l2 (Int.toNat x0)) 4)) (.ints .i64 (RC.ints (rcAt (rrow l2 (Int.toNat x0)) 4))))])]).bind fun r0 =>
 cond (!bit (nth r0 0))
 (some [(.bool (false))])
 (cond (decide ((0 : Int) ≤ x0) && decide (x0 < nI (List.length l2)))
 (cond (decide ((0 : Int) ≤ (0 : Int)) && decide ((0 : Int) < nI (List.length l2)))
 ((go k spec_SameMesh [(.agg [(.int .i64 (RC.num (rcAt (rrow l2 (Int.toNat x0)) 0))), (.arr false (RC.nil (rcAt (rrow l2 (Int.toNat x0)) 1)) (.r3 (RC.r3s (rcAt (rrow l2 (Int.toNat x0)) 1))))]), (.agg [(.int .i64 (RC.num (rcAt (rrow l2 (Int.toNat (0 : Int))) 0))), (.arr false (RC.nil (rcAt (rrow l2 (Int.toNat (0 : Int))) 1)) (.r3 (RC.r3s (rcAt (rrow l2 (Int.toNat (0 : Int))) 1))))])]).bind fun r1 =>
 cond (!bit (nth r1 0))
 (some [(.bool (false))])
 (lp k spec_l34Ask [] fu 4 n (qml (IntKind.wrap .i64 (x0 + (1 : Int))) z1 l2)))
 (none))
 (none)))
 (none))
 (some [(.bool (true))]) := by kernel_rfl

end Go.Proofs.Ytcaapedadpnjoaa
end
section
namespace Go.Proofs.Ytcaapedadpnjoaa
open Go.Ev
def qmf (x0 : Int) (z1 : Bool) (l2 : List (Int × Int × Int)) (z3 : Bool) (l4 : List Int) (z5 : Bool) (l6 : List Int) (z7 : Bool) (l8 : List Int) (x9 : Int) : St := ⟨fill 84 [(1, (.ptr 4 (0) (0))), (3, (.int .i64 (x0)))], [], [(.arr false (z1) (.r3 (l2))), (.arr false (z3) (.ints .i64 (l4))), (.arr false (z5) (.ints .i64 (l6))), (.arr false (z7) (.ints .i64 (l8))), (.box true [(.int .i64 (x9)), (.sl 0 none), (.sl 1 none), (.sl 2 none), (.sl 3 none)])]⟩
def qmg (x0 : Int) (z1 : Bool) (l2 : List (Int × Int × Int)) (z3 : Bool) (l4 : List Int) (z5 : Bool) (l6 : List Int) (z7 : Bool) (l8 : List Int) (x9 : Int) : St := ⟨fill 84 [(1, (.ptr 4 (0) (0))), (4, (.int .i64 (x0)))], [], [(.arr false (z1) (.r3 (l2))), (.arr false (z3) (.ints .i64 (l4))), (.arr false (z5) (.ints .i64 (l6))), (.arr false (z7) (.ints .i64 (l8))), (.box true [(.int .i64 (x9)), (.sl 0 none), (.sl 1 none), (.sl 2 none), (.sl 3 none)])]⟩
theorem qgf (k : Nat) (a0 : Int) (a1z : Bool) (a1 : List (Int × Int × Int)) (a2z : Bool) (a2 : List Int) (a3z : Bool) (a3 : List Int) (a4z : Bool) (a4 : List Int) : go (k + 1) spec_StateOk [(.agg [(.int .i64 (a0)), (.arr false (a1z) (.r3 (a1))), (.arr false (a2z) (.ints .i64 (a2))), (.arr false (a3z) (.ints .i64 (a3))), (.arr false (a4z) (.ints .i64 (a4)))])] =
 (go k spec_IsBalanced [(.agg [(.int .i64 (a0)), (.arr false (a1z) (.r3 (a1)))])]).bind fun r0 =>
 cond (!bit (nth r0 0))
 (some [(.bool (false))])
 (cond (!decide (nI (List.length a2) = nI (List.length a1)))
 (some [(.bool (false))])
 (cond (!decide (nI (List.length a3) = nI (List.length a2)))
 (some [(.bool (false))])
 (cond (!decide (nI (List.length a4) = a0))
 (some [(.bool (false))])
 (lp k spec_StateOk [] [] 4 k (qmf (0 : Int) a1z a1 a2z a2 a3z a3 a4z a4 a0))))) := by kernel_rfl
theorem qib (k n : Nat) (fu : List (Nat × Nat)) (x0 : Int) (z1 : Bool) (l2 : List (Int × Int × Int)) (z3 : Bool) (l4 : List Int) (z5 : Bool) (l6 : List Int) (z7 : Bool) (l8 : List Int) (x9 : Int) : lp k spec_StateOk [] fu 4 (n + 1) (qmf x0 z1 l2 z3 l4 z5 l6 z7 l8 x9) =
 cond (decide (x0 < nI (List.length l4)))
 (cond (decide ((0 : Int) ≤ x0) && decide (x0 < nI (List.length l4)))
 ((go k spec_l01In [(.int .i64 (List.getD l4 (Int.toNat x0) (0 : Int))), (.int .i64 (0 : Int)), (.int .i64 ((10000000 : Int)))]).bind fun r0 =>
 cond (!bit (nth r0 0))
 (some [(.bool (false))])
 (cond (decide ((0 : Int) ≤ x0) && decide (x0 < nI (List.length l6)))
 (cond (decide ((0 : Int) ≤ x0) && decide (x0 < nI (List.length l4)))
 ((go k spec_l01In [(.int .i64 (List.getD l6 (Int.toNat x0) (0 : Int))), (.int .i64 (0 : Int)), (.int .i64 (IntKind.wrap .i64 ((1000 : Int) * List.getD l4 (Int.toNat x0) (0 : Int))))]).bind fun r1 =>
 cond (!bit (nth r1 0))
 (some [(.bool (false))])
 (lp k spec_StateOk [] fu 4 n (qmf (IntKind.wrap .i64 (x0 + (1 : Int))) z1 l2 z3 l4 z5 l6 z7 l8 x9)))
 (none))
 (none)))
 (none))
 (lp k spec_StateOk [] fu 9 k (qmg (0 : Int) z1 l2 z3 l4 z5 l6 z7 l8 x9)) := by kernel_rfl
theorem qic (k n : Nat) (fu : List (Nat × Nat)) (x0 : Int) (z1 : Bool) (l2 : List (Int × Int × Int)) (z3 : Bool) (l4 : List Int) (z5 : Bool) (l6 : List Int) (z7 : Bool) (l8 : List Int) (x9 : Int) : lp k spec_StateOk [] fu 9 (n + 1) (qmg x0 z1 l2 z3 l4 z5 l6 z7 l8 x9) =
 cond (decide (x0 < nI (List.length l8)))
 (cond (decide ((0 : Int) ≤ x0) && decide (x0 < nI (List.length l8)))
 ((go k spec_l01In [(.int .i64 (List.getD l8 (Int.toNat x0) (0 : Int))), (.int .i64 (0 : Int)), (.int .i64 ((1000000 : Int)))]).bind fun r0 =>
 cond (!bit (nth r0 0))
 (some [(.bool (false))])
 (lp k spec_StateOk [] fu 9 n (qmg (IntKind.wrap .i64 (x0 + (1 : Int))) z1 l2 z3 l4 z5 l6 z7 l8 x9)))
 (none))
 ((go k spec_l07Sum [(.arr false (z3) (.ints .i64 (l4)))]).bind fun r1 =>
 some [(.bool (decide (D.toInt (nth r1 0) ≤ (10000000 : Int))))]) := by kernel_rfl
theorem qev (k : Nat) (a0 : Int) (a1z : Bool) (a1 : List (Int × Int × Int)) (a2z : Bool) (a2 : List Int) (a3z : Bool) (a3 : List Int) (a4z : Bool) (a4 : List Int) : go (k + 1) impl_StateOk [(.agg [(.int .i64 (a0)), (.arr false (a1z) (.r3 (a1))), (.arr false (a2z) (.ints .i64 (a2))), (.arr false (a3z) (.ints .i64 (a3))), (.arr false (a4z) (.ints .i64 (a4)))])] =
 (go k impl_IsBalanced [(.agg [(.int .i64 (a0)), (.arr false (a1z) (.r3 (a1)))])]).bind fun r0 =>
 cond (bit (nth r0 0))
 ((go k impl_State_hasCells [(.agg [(.int .i64 (a0)), (.arr false (a1z) (.r3 (a1))), (.arr false (a2z) (.ints .i64 (a2))), (.arr false (a3z) (.ints .i64 (a3))), (.arr false (a4z) (.ints .i64 (a4)))])]).bind fun r1 =>
 some [(.bool (bit (nth r1 0)))])
 (some [(.bool (false))]) := by kernel_rfl
def qlu (x0 x1 : Int) (z2 : Bool) (l3 : List (Int × Int × Int)) (z4 : Bool) (l5 : List Int) (z6 : Bool) (l7 : List Int) (z8 : Bool) (l9 : List Int) (x10 : Int) : St := ⟨fill 63 [(1, (.ptr 4 (0) (0))), (37, (.sl 1 none)), (38, (.int .i64 (x0))), (39, (.int .i64 (x1)))], [], [(.arr false (z2) (.r3 (l3))), (.arr false (z4) (.ints .i64 (l5))), (.arr false (z6) (.ints .i64 (l7))), (.arr false (z8) (.ints .i64 (l9))), (.box true [(.int .i64 (x10)), (.sl 0 none), (.sl 1 none), (.sl 2 none), (.sl 3 none)])]⟩
theorem qex (k : Nat) (a0 : Int) (a1z : Bool) (a1 : List (Int × Int × Int)) (a2z : Bool) (a2 : List Int) (a3z : Bool) (a3 : List Int) (a4z : Bool) (a4 : List Int) : go (k + 1) impl_State_hasCells [(.agg [(.int .i64 (a0)), (.arr false (a1z) (.r3 (a1))), (.arr false (a2z) (.ints .i64 (a2))), (.arr false (a3z) (.ints .i64 (a3))), (.arr false (a4z) (.ints .i64 (a4)))])] =
 cond (!decide (nI (List.length a2) = nI (List.length a1)))
 (some [(.bool (false))])
 (cond (!decide (nI (List.length a3) = nI (List.length a1)))
 (some [(.bool (false))])
 (cond (!decide (nI (List.length a4) = a0))
 (some [(.bool (false))])
 ((go k slices_ContainsFunc_int_int [(.arr false (a4z) (.ints .i64 (a4))), (.fn impl_State_hasCells_1 [])]).bind fun r0 =>
 cond (bit (nth r0 0))
 (some [(.bool (false))])
 (lp k impl_State_hasCells [] [] 5 k (qlu (nI (List.length a2)) (0 : Int) a1z a1 a2z a2 a3z a3 a4z a4 a0))))) := by kernel_rfl
theorem qhq (k n : Nat) (fu : List (Nat × Nat)) (x0 x1 : Int) (z2 : Bool) (l3 : List (Int × Int × Int)) (z4 : Bool) (l5 : List Int) (z6 : Bool) (l7 : List Int) (z8 : Bool) (l9 : List Int) (x10 : Int) : lp k impl_State_hasCells [] fu 5 (n + 1) (qlu x0 x1 z2 l3 z4 l5 z6 l7 z8 l9 x10) =
 cond (decide (x1 < x0))
 (cond (decide ((0 : Int) ≤ x1) && decide (x1 < nI (List.length l5)))
 ((go k impl_within [(.int .i64 (List.getD l5 (Int.toNat x1) (0 : Int))), (.int .i64 (0 : Int)), (.int .i64 ((10000000 : Int)))]).bind fun r0 =>
 cond (!bit (nth r0 0))
 (some [(.bool (false))])
 (cond (decide ((0 : Int) ≤ x1) && decide (x1 < nI (List.length l7)))
 ((go k impl_within [(.int .i64 (List.getD l7 (Int.toNat x1) (0 : Int))), (.int .i64 (0 : Int)), (.int .i64 (IntKind.wrap .i64 ((1000 : Int) * List.getD l5 (Int.toNat x1) (0 : Int))))]).bind fun r1 =>
 cond (!bit (nth r1 0))
 (some [(.bool (false))])
 (lp k impl_State_hasCells [] fu 5 n (qlu x0 (IntKind.wrap .i64 (x1 + (1 : Int))) z2 l3 z4 l5 z6 l7 z8 l9 x10)))
 (none)))
 (none))
 ((go k impl_sum [(.arr false (z4) (.ints .i64 (l5)))]).bind fun r2 =>
 some [(.bool (decide (D.toInt (nth r2 0) ≤ (10000000 : Int))))]) := by kernel_rfl
theorem qey (k : Nat) (a : Int) : go (k + 1) impl_State_hasCells_1 [(.int .i64 (a))] =
 (go k impl_isBed [(.int .i64 (a))]).bind fun r0 =>
 some [(.bool (!bit (nth r0 0)))] := by kernel_rfl
theorem qfa (k : Nat) (a : Int) : go (k + 1) impl_isBed [(.int .i64 (a))] =
 (go k impl_within [(.int .i64 (a)), (.int .i64 (0 : Int)), (.int .i64 ((1000000 : Int)))]).bind fun r0 =>
 some [(.bool (bit (nth r0 0)))] := by kernel_rfl
def qmi (x0 x1 : Int) (z2 : Bool) (l3 : List Int) : St := ⟨fill 18 [(0, (.sl 0 none)), (3, (.int .i64 (x0))), (4, (.int .i64 (x1)))], [], [(.arr false (z2) (.ints .i64 (l3)))]⟩
theorem qgn (k : Nat) (az : Bool) (a : List Int) : go (k + 1) spec_l07Sum [(.arr false (az) (.ints .i64 (a)))] =
 lp k spec_l07Sum [] [] 3 k (qmi (0 : Int) (0 : Int) az a) := by kernel_rfl
theorem qie (k n : Nat) (fu : List (Nat × Nat)) (x0 x1 : Int) (z2 : Bool) (l3 : List Int) : lp k spec_l07Sum [] fu 3 (n + 1) (qmi x0 x1 z2 l3) =
 cond (decide (x1 < nI (List.length l3)))
 (cond (decide ((0 : Int) ≤ x1) && decide (x1 < nI (List.length l3)))
 (lp k spec_l07Sum [] fu 3 n (qmi (IntKind.wrap .i64 (x0 + List.getD l3 (Int.toNat x1) (0 : Int))) (IntKind.wrap .i64 (x1 + (1 : Int))) z2 l3))
 (none))
 (some [(.int .i64 (x0))]) := by kernel_rfl
def qly (x0 x1 x2 : Int) (z3 : Bool) (l4 : List Int) : St := ⟨fill 17 [(3, (.int .i64 (x0))), (6, (.sl 0 none)), (7, (.int .i64 (x1))), (8, (.int .i64 (x2)))], [], [(.arr false (z3) (.ints .i64 (l4)))]⟩
theorem qfc (k : Nat) (az : Bool) (a : List Int) : go (k + 1) impl_sum [(.arr false (az) (.ints .i64 (a)))] =
 lp k impl_sum [] [] 3 k (qly (0 : Int) (nI (List.length a)) (0 : Int) az a) := by kernel_rfl
theorem qhu (k n : Nat) (fu : List (Nat × Nat)) (x0 x1 x2 : Int) (z3 : Bool) (l4 : List Int) : lp k impl_sum [] fu 3 (n + 1) (qly x0 x1 x2 z3 l4) =
 cond (decide (x2 < x1))
 (cond (decide ((0 : Int) ≤ x2) && decide (x2 < nI (List.length l4)))
 (lp k impl_sum [] fu 3 n (qly (IntKind.wrap .i64 (x0 + List.getD l4 (Int.toNat x2) (0 : Int))) x1 (IntKind.wrap .i64 (x2 + (1 : Int))) z3 l4))
 (none))
 (some [(.int .i64 (x0))]) := by kernel_rfl
def qmc (x0 x1 : Int) (z2 : Bool) (l3 : List Int) : St := ⟨fill 19 [(0, (.sl 0 none)), (1, (.fn impl_State_hasCells_1 [])), (7, (.int .i64 (x0))), (8, (.int .i64 (x1)))], [], [(.arr false (z2) (.ints .i64 (l3)))]⟩
theorem qf5 (k : Nat) (v0 : Bool) (v1 : List Int) : go (k + 1) slices_IndexFunc_int_int [(.arr false (v0) (.ints .i64 (v1))), (.fn impl_State_hasCells_1 [])] =
 lp k slices_IndexFunc_int_int [] [] 2 k (qmc (nI (List.length v1)) (0 : Int) v0 v1) := by kernel_rfl
theorem qh8 (k n : Nat) (fu : List (Nat × Nat)) (x0 x1 : Int) (z2 : Bool) (l3 : List Int) : lp k slices_IndexFunc_int_int [] fu 2 (n + 1) (qmc x0 x1 z2 l3) =
 cond (decide (x1 < x0))
 (cond (decide ((0 : Int) ≤ x1) && decide (x1 < nI (List.length l3)))
 ((go k impl_State_hasCells_1 [(.int .i64 (List.getD l3 (Int.toNat x1) (0 : Int)))]).bind fun r0 =>
 cond (bit (nth r0 0))
 (some [(.int .i64 (x1))])
 (lp k slices_IndexFunc_int_int [] fu 2 n (qmc x0 (IntKind.wrap .i64 (x1 + (1 : Int))) z2 l3)))
 (none))
 (some [(.int .i64 ((-1 : Int)))]) := by kernel_rfl
theorem qf2 (k : Nat) (v0 : Bool) (v1 : List Int) : go (k + 1) slices_ContainsFunc_int_int [(.arr false (v0) (.ints .i64 (v1))), (.fn impl_State_hasCells_1 [])] =
 (go k slices_IndexFunc_int_int [(.arr false (v0) (.ints .i64 (v1))), (.fn impl_State_hasCells_1 [])]).bind fun r0 =>
 some [(.bool (decide ((0 : Int) ≤ D.toInt (nth r0 0))))] := by kernel_rfl
theorem qgi (k : Nat) (a0 : Int) (a1z : Bool) (a1 : List (Int × Int × Int)) : go (k + 1) spec_l04Copy [(.agg [(.int .i64 (a0)), (.arr false (a1z) (.r3 (a1)))])] =
 cond (decide (List.length ([] ++ a1) ≤ bigLen))
 (some [(.agg [(.int .i64 (a0)), (.arr true (false && decide (List.length ([] ++ a1) = 0)) (.r3 ([] ++ a1)))])])
 (none) := by kernel_rfl
theorem qgm (k : Nat) (a0 : Int) (a1z : Bool) (a1 : List (Int × Int × Int)) (a2z : Bool) (a2 : List Int) (a3z : Bool) (a3 : List Int) (a4z : Bool) (a4 : List Int) : go (k + 1) spec_l07Copy [(.agg [(.int .i64 (a0)), (.arr false (a1z) (.r3 (a1))), (.arr false (a2z) (.ints .i64 (a2))), (.arr false (a3z) (.ints .i64 (a3))), (.arr false (a4z) (.ints .i64 (a4)))])] =
 (go k spec_l04Copy [(.agg [(.int .i64 (a0)), (.arr false (a1z) (.r3 (a1)))])]).bind fun r0 =>
 cond (decide (List.length ([] ++ a2) ≤ bigLen))
 (cond (decide (List.length ([] ++ a3) ≤ bigLen))
 (cond (decide (List.length ([] ++ a4) ≤ bigLen))
 (some [(.agg [(.int .i64 (D.toInt (D.cell 0 (nth r0 0)))), (.arr true (D.nil (D.cell 1 (nth r0 0))) (.r3 (D.r3 (D.cell 1 (nth r0 0))))), (.arr true (false && decide (List.length ([] ++ a2) = 0)) (.ints .i64 ([] ++ a2))), (.arr true (false && decide (List.length ([] ++ a3) = 0)) (.ints .i64 ([] ++ a3))), (.arr true (false && decide (List.length ([] ++ a4) = 0)) (.ints .i64 ([] ++ a4)))])])
 (none))
 (none))
 (none) := by kernel_rfl
theorem qe6 (k : Nat) (a0 : Int) (a1z : Bool) (a1 : List (Int × Int × Int)) : go (k + 1) impl_copyMesh [(.agg [(.int .i64 (a0)), (.arr false (a1z) (.r3 (a1)))])] =
 (go k slices_Clone_impl_Id_impl_Id [(.arr false (a1z) (.r3 (a1)))]).bind fun r0 =>
 some [(.agg [(.int .i64 (a0)), (.arr true (D.nil (nth r0 0)) (.r3 (D.r3 (nth r0 0))))])] := by kernel_rfl
theorem qe7 (k : Nat) (a0 : Int) (a1z : Bool) (a1 : List (Int × Int × Int)) (a2z : Bool) (a2 : List Int) (a3z : Bool) (a3 : List Int) (a4z : Bool) (a4 : List Int) : go (k + 1) impl_copyState [(.agg [(.int .i64 (a0)), (.arr false (a1z) (.r3 (a1))), (.arr false (a2z) (.ints .i64 (a2))), (.arr false (a3z) (.ints .i64 (a3))), (.arr false (a4z) (.ints .i64 (a4)))])] =
 (go k impl_copyMesh [(.agg [(.int .i64 (a0)), (.arr false (a1z) (.r3 (a1)))])]).bind fun r0 =>
 (go k slices_Clone_int_int [(.arr false (a2z) (.ints .i64 (a2)))]).bind fun r1 =>
 (go k slices_Clone_int_int [(.arr false (a3z) (.ints .i64 (a3)))]).bind fun r2 =>
 (go k slices_Clone_int_int [(.arr false (a4z) (.ints .i64 (a4)))]).bind fun r3 =>
 some [(.agg [(.int .i64 (D.toInt (D.cell 0 (nth r0 0)))), (.arr true (D.nil (D.cell 1 (nth r0 0))) (.r3 (D.r3 (D.cell 1 (nth r0 0))))), (.arr true (D.nil (nth r1 0)) (.ints .i64 (D.ints (nth r1 0)))), (.arr true (D.nil (nth r2 0)) (.ints .i64 (D.ints (nth r2 0)))), (.arr true (D.nil (nth r3 0)) (.ints .i64 (D.ints (nth r3 0))))])] := by kernel_rfl
theorem qf0 (k : Nat) (az : Bool) (a : List Int) : go (k + 1) slices_Clone_int_int [(.arr false (az) (.ints .i64 (a)))] =
 cond (az)
 (some [(.arr true (true) (.ints .i64 ([])))])
 (cond (decide (List.length ([] ++ a) ≤ bigLen))
 (some [(.arr true (false && decide (List.length ([] ++ a) = 0)) (.ints .i64 ([] ++ a)))])
 (none)) := by kernel_rfl
theorem qfz (k : Nat) (az : Bool) (a : List (Int × Int × Int)) : go (k + 1) slices_Clone_impl_Id_impl_Id [(.arr false (az) (.r3 (a)))] =
 cond (az)
 (some [(.arr true (true) (.r3 ([])))])
 (cond (decide (List.length ([] ++ a) ≤ bigLen))
 (some [(.arr true (false && decide (List.length ([] ++ a) = 0)) (.r3 ([] ++ a)))])
 (none)) := by kernel_rfl
end Go.Proofs.Ytcaapedadpnjoaa
end
section
namespace Go.Proofs.Ytcaapedadpnjoaa
open Go.Ev
theorem qd6 {α : Type} (a : Bool) (x y : α) : cond (!a) x y = cond a y x := by cases a <;> rfl
theorem qd4 {α : Type} (a b : Bool) (x y : α) : cond a (cond b x y) y = cond (a && b) x y := by cases a <;> rfl
abbrev qij (l : List Cell) (i : Nat) : Int := (l.getD i zz3).2.1
def qab (l : List Cell) : Prop := ∀ i, 0 ≤ qij l i ∧ qij l i ≤ 4
theorem qj3 : ∀ (l : List Cell) (r p : Int), qjz r p l = true → ∀ i, 0 ≤ qij l i ∧ qij l i ≤ 4
  | [], r, p, h, i => by simp [qij]
  | x :: l, r, p, h, i => by
    simp only [qjz, Bool.and_eq_true] at h
    cases i with
    | zero => have := lev0 (qhe h.1).2.2.1; simpa [qij] using this
    | succ i => have := qj3 l r _ h.2.2 i; simpa [qij] using this
def qnu (l : List Cell) : Nat → Nat → Int
  | 0, _ => -1
  | n + 1, i => if 1 < qij l i - qij l (i + 1) ∨ qij l i - qij l (i + 1) < -1 then (i : Int) else qnu l n (i + 1)
def unb (l : List Cell) : Int := qnu l (l.length - 1) 0
theorem qbg (k : Nat) (hk : 2000000 ≤ k) (a : Int) (h : -9223372036854775807 ≤ a) (h' : a ≤ 9223372036854775807) : go (k + 1) impl_absolute [(.int .i64 (a))] = some [.int .i64 (max (0 - a) a)] := by
  rw [qe5]; simp (disch := omega) only [qaw, nth0, nth1, nth2, nth3, bit, qde, qdf, qdq, qdv, qdw, qdx, qdy, qdz, qd0, qd1, qdg, qdh, qdi, qdj, qdk, qdl, qdm, qdn, qdo, qdp, qdr, qds, qdt, qdu, qnn, qnm, qno, qko, qlb, qlc, qhh, qax, qm5, nI, qd7, qd5, Bool.not_true, Bool.not_false, Bool.and_true, Bool.true_and, Bool.and_false, Bool.false_and, Bool.or_true, Bool.true_or, Bool.or_false, Bool.false_or, beq_self_eq_true, dTT, dFF, dT, dF, bigI, big0, qkn, qn7, qn8, List.length_set, List.length_replicate, Int.toNat_natCast, qdc, qdd, imax, imin]
theorem qjk (k : Nat) (hk : 2000000 ≤ k) (fu : List (Nat × Nat)) (z : Bool) (l : List Cell) (r : Int) (hl : (l.length : Int) ≤ 1048576) (hv : qab l) : ∀ (n i : Nat), i ≤ l.length → l.length - 1 - i < n →
    lp k spec_l05First [] fu 2 (n) (qmh (i : Int) z l r) = some [.int .i64 (qnu l (l.length - 1 - i) i)]
  | 0, i, hi, hn => by omega
  | n + 1, i, hi, hn => by
    rw [qid]
    by_cases h : i + 1 < l.length
    · have e := qjk k hk fu z l r hl hv n (i + 1) (by omega) (by omega)
      have h1 := hv i; have h2 := hv (i + 1)
      simp only [qij] at h1 h2
      simp (disch := omega) only [qaw, nth0, nth1, nth2, nth3, bit, qde, qdf, qdq, qdv, qdw, qdx, qdy, qdz, qd0, qd1, qdg, qdh, qdi, qdj, qdk, qdl, qdm, qdn, qdo, qdp, qdr, qds, qdt, qdu, qnn, qnm, qno, qko, qlb, qlc, qhh, qax, qm5, nI, qd7, qd5, Bool.not_true, Bool.not_false, Bool.and_true, Bool.true_and, Bool.and_false, Bool.false_and, Bool.or_true, Bool.true_or, Bool.or_false, Bool.false_or, beq_self_eq_true, dTT, dFF, dT, dF, bigI, big0, qkn, qn7, qn8, List.length_set, List.length_replicate, Int.toNat_natCast, qdc, qdd, imax, imin, e]
      rw [show l.length - 1 - i = (l.length - 1 - (i + 1)) + 1 by omega, qnu]
      simp only [qij]
      by_cases g : 1 < (l.getD i zz3).2.1 - (l.getD (i + 1) zz3).2.1
      · simp (disch := omega) only [qaw, nth0, nth1, nth2, nth3, bit, qde, qdf, qdq, qdv, qdw, qdx, qdy, qdz, qd0, qd1, qdg, qdh, qdi, qdj, qdk, qdl, qdm, qdn, qdo, qdp, qdr, qds, qdt, qdu, qnn, qnm, qno, qko, qlb, qlc, qhh, qax, qm5, nI, qd7, qd5, Bool.not_true, Bool.not_false, Bool.and_true, Bool.true_and, Bool.and_false, Bool.false_and, Bool.or_true, Bool.true_or, Bool.or_false, Bool.false_or, beq_self_eq_true, dTT, dFF, dT, dF, bigI, big0, qkn, qn7, qn8, List.length_set, List.length_replicate, Int.toNat_natCast, qdc, qdd, imax, imin]; rw [if_pos (Or.inl g)]
      · by_cases g2 : (l.getD i zz3).2.1 - (l.getD (i + 1) zz3).2.1 < -1
        · simp (disch := omega) only [qaw, nth0, nth1, nth2, nth3, bit, qde, qdf, qdq, qdv, qdw, qdx, qdy, qdz, qd0, qd1, qdg, qdh, qdi, qdj, qdk, qdl, qdm, qdn, qdo, qdp, qdr, qds, qdt, qdu, qnn, qnm, qno, qko, qlb, qlc, qhh, qax, qm5, nI, qd7, qd5, Bool.not_true, Bool.not_false, Bool.and_true, Bool.true_and, Bool.and_false, Bool.false_and, Bool.or_true, Bool.true_or, Bool.or_false, Bool.false_or, beq_self_eq_true, dTT, dFF, dT, dF, bigI, big0, qkn, qn7, qn8, List.length_set, List.length_replicate, Int.toNat_natCast, qdc, qdd, imax, imin]; rw [if_pos (Or.inr g2)]
        · simp (disch := omega) only [qaw, nth0, nth1, nth2, nth3, bit, qde, qdf, qdq, qdv, qdw, qdx, qdy, qdz, qd0, qd1, qdg, qdh, qdi, qdj, qdk, qdl, qdm, qdn, qdo, qdp, qdr, qds, qdt, qdu, qnn, qnm, qno, qko, qlb, qlc, qhh, qax, qm5, nI, qd7, qd5, Bool.not_true, Bool.not_false, Bool.and_true, Bool.true_and, Bool.and_false, Bool.false_and, Bool.or_true, Bool.true_or, Bool.or_false, Bool.false_or, beq_self_eq_true, dTT, dFF, dT, dF, bigI, big0, qkn, qn7, qn8, List.length_set, List.length_replicate, Int.toNat_natCast, qdc, qdd, imax, imin]; rw [if_neg (not_or.2 ⟨g, g2⟩)]
    · simp (disch := omega) only [qaw, nth0, nth1, nth2, nth3, bit, qde, qdf, qdq, qdv, qdw, qdx, qdy, qdz, qd0, qd1, qdg, qdh, qdi, qdj, qdk, qdl, qdm, qdn, qdo, qdp, qdr, qds, qdt, qdu, qnn, qnm, qno, qko, qlb, qlc, qhh, qax, qm5, nI, qd7, qd5, Bool.not_true, Bool.not_false, Bool.and_true, Bool.true_and, Bool.and_false, Bool.false_and, Bool.or_true, Bool.true_or, Bool.or_false, Bool.false_or, beq_self_eq_true, dTT, dFF, dT, dF, bigI, big0, qkn, qn7, qn8, List.length_set, List.length_replicate, Int.toNat_natCast, qdc, qdd, imax, imin]
      rw [show l.length - 1 - i = 0 by omega]; rfl
theorem qc4 (k : Nat) (hk : 2000000 ≤ k) (a0 : Int) (a1z : Bool) (a1 : List (Int × Int × Int)) (hl : (a1.length : Int) ≤ 1048576) (hv : qab a1) : go (k + 1) spec_l05First [(.agg [(.int .i64 (a0)), (.arr false (a1z) (.r3 (a1)))])] = some [.int .i64 (unb a1)] := by
  rw [qgl]
  exact qjk k hk [] a1z a1 a0 hl hv _ 0 (by omega) (by omega)
theorem qiz (k : Nat) (hk : 2000000 ≤ k) (fu : List (Nat × Nat)) (z : Bool) (l : List Cell) (r : Int) (hl : (l.length : Int) ≤ 1048576) (hv : qab l) : ∀ (n i : Nat), i ≤ l.length → l.length - 1 - i < n →
    lp (k + 1) impl_Mesh_unbalanced [] fu 2 (n) (qlt ((l.length : Int) - 1) (i : Int) z l r) = some [.int .i64 (qnu l (l.length - 1 - i) i)]
  | 0, i, hi, hn => by omega
  | n + 1, i, hi, hn => by
    rw [qhp]
    by_cases h : i + 1 < l.length
    · have e := qiz k hk fu z l r hl hv n (i + 1) (by omega) (by omega)
      have h1 := hv i; have h2 := hv (i + 1)
      simp only [qij] at h1 h2
      simp (disch := omega) only [qaw, nth0, nth1, nth2, nth3, bit, qde, qdf, qdq, qdv, qdw, qdx, qdy, qdz, qd0, qd1, qdg, qdh, qdi, qdj, qdk, qdl, qdm, qdn, qdo, qdp, qdr, qds, qdt, qdu, qnn, qnm, qno, qko, qlb, qlc, qhh, qax, qm5, nI, qd7, qd5, Bool.not_true, Bool.not_false, Bool.and_true, Bool.true_and, Bool.and_false, Bool.false_and, Bool.or_true, Bool.true_or, Bool.or_false, Bool.false_or, beq_self_eq_true, dTT, dFF, dT, dF, bigI, big0, qkn, qn7, qn8, List.length_set, List.length_replicate, Int.toNat_natCast, qdc, qdd, imax, imin, e, qbg]
      rw [show l.length - 1 - i = (l.length - 1 - (i + 1)) + 1 by omega, qnu]
      simp only [qij]
      by_cases g : 1 < (l.getD i zz3).2.1 - (l.getD (i + 1) zz3).2.1
      · simp (disch := omega) only [qaw, nth0, nth1, nth2, nth3, bit, qde, qdf, qdq, qdv, qdw, qdx, qdy, qdz, qd0, qd1, qdg, qdh, qdi, qdj, qdk, qdl, qdm, qdn, qdo, qdp, qdr, qds, qdt, qdu, qnn, qnm, qno, qko, qlb, qlc, qhh, qax, qm5, nI, qd7, qd5, Bool.not_true, Bool.not_false, Bool.and_true, Bool.true_and, Bool.and_false, Bool.false_and, Bool.or_true, Bool.true_or, Bool.or_false, Bool.false_or, beq_self_eq_true, dTT, dFF, dT, dF, bigI, big0, qkn, qn7, qn8, List.length_set, List.length_replicate, Int.toNat_natCast, qdc, qdd, imax, imin]; rw [if_pos (Or.inl g)]
      · by_cases g2 : (l.getD i zz3).2.1 - (l.getD (i + 1) zz3).2.1 < -1
        · simp (disch := omega) only [qaw, nth0, nth1, nth2, nth3, bit, qde, qdf, qdq, qdv, qdw, qdx, qdy, qdz, qd0, qd1, qdg, qdh, qdi, qdj, qdk, qdl, qdm, qdn, qdo, qdp, qdr, qds, qdt, qdu, qnn, qnm, qno, qko, qlb, qlc, qhh, qax, qm5, nI, qd7, qd5, Bool.not_true, Bool.not_false, Bool.and_true, Bool.true_and, Bool.and_false, Bool.false_and, Bool.or_true, Bool.true_or, Bool.or_false, Bool.false_or, beq_self_eq_true, dTT, dFF, dT, dF, bigI, big0, qkn, qn7, qn8, List.length_set, List.length_replicate, Int.toNat_natCast, qdc, qdd, imax, imin]; rw [if_pos (Or.inr g2)]
        · simp (disch := omega) only [qaw, nth0, nth1, nth2, nth3, bit, qde, qdf, qdq, qdv, qdw, qdx, qdy, qdz, qd0, qd1, qdg, qdh, qdi, qdj, qdk, qdl, qdm, qdn, qdo, qdp, qdr, qds, qdt, qdu, qnn, qnm, qno, qko, qlb, qlc, qhh, qax, qm5, nI, qd7, qd5, Bool.not_true, Bool.not_false, Bool.and_true, Bool.true_and, Bool.and_false, Bool.false_and, Bool.or_true, Bool.true_or, Bool.or_false, Bool.false_or, beq_self_eq_true, dTT, dFF, dT, dF, bigI, big0, qkn, qn7, qn8, List.length_set, List.length_replicate, Int.toNat_natCast, qdc, qdd, imax, imin]; rw [if_neg (not_or.2 ⟨g, g2⟩)]
    · simp (disch := omega) only [qaw, nth0, nth1, nth2, nth3, bit, qde, qdf, qdq, qdv, qdw, qdx, qdy, qdz, qd0, qd1, qdg, qdh, qdi, qdj, qdk, qdl, qdm, qdn, qdo, qdp, qdr, qds, qdt, qdu, qnn, qnm, qno, qko, qlb, qlc, qhh, qax, qm5, nI, qd7, qd5, Bool.not_true, Bool.not_false, Bool.and_true, Bool.true_and, Bool.and_false, Bool.false_and, Bool.or_true, Bool.true_or, Bool.or_false, Bool.false_or, beq_self_eq_true, dTT, dFF, dT, dF, bigI, big0, qkn, qn7, qn8, List.length_set, List.length_replicate, Int.toNat_natCast, qdc, qdd, imax, imin]
      rw [show l.length - 1 - i = 0 by omega]; rfl
theorem qbw (k : Nat) (hk : 2000000 ≤ k) (a0 : Int) (a1z : Bool) (a1 : List (Int × Int × Int)) (hl : (a1.length : Int) ≤ 1048576) (hv : qab a1) : go (k + 2) impl_Mesh_unbalanced [(.agg [(.int .i64 (a0)), (.arr false (a1z) (.r3 (a1)))])] = some [.int .i64 (unb a1)] := by
  rw [qer]
  simp (disch := omega) only [qaw, nth0, nth1, nth2, nth3, bit, qde, qdf, qdq, qdv, qdw, qdx, qdy, qdz, qd0, qd1, qdg, qdh, qdi, qdj, qdk, qdl, qdm, qdn, qdo, qdp, qdr, qds, qdt, qdu, qnn, qnm, qno, qko, qlb, qlc, qhh, qax, qm5, nI, qd7, qd5, Bool.not_true, Bool.not_false, Bool.and_true, Bool.true_and, Bool.and_false, Bool.false_and, Bool.or_true, Bool.true_or, Bool.or_false, Bool.false_or, beq_self_eq_true, dTT, dFF, dT, dF, bigI, big0, qkn, qn7, qn8, List.length_set, List.length_replicate, Int.toNat_natCast, qdc, qdd, imax, imin]
  exact qiz k hk [] a1z a1 a0 hl hv _ 0 (by omega) (by omega)
def qat (r : Int) (l : List Cell) : Bool := qjz r 0 l && decide (unb l < 0)
theorem qcs (k : Nat) (hk : 2000000 ≤ k) (a0 : Int) (a1z : Bool) (a1 : List (Int × Int × Int)) (hl : (a1.length : Int) ≤ 1048576) : go (k + 6) spec_IsBalanced [(.agg [(.int .i64 (a0)), (.arr false (a1z) (.r3 (a1)))])] = some [.bool (qat a0 a1)] := by
  rw [qf9]
  simp (disch := omega) only [qaw, nth0, nth1, nth2, nth3, bit, qde, qdf, qdq, qdv, qdw, qdx, qdy, qdz, qd0, qd1, qdg, qdh, qdi, qdj, qdk, qdl, qdm, qdn, qdo, qdp, qdr, qds, qdt, qdu, qnn, qnm, qno, qko, qlb, qlc, qhh, qax, qm5, nI, qd7, qd5, Bool.not_true, Bool.not_false, Bool.and_true, Bool.true_and, Bool.and_false, Bool.false_and, Bool.or_true, Bool.true_or, Bool.or_false, Bool.false_or, beq_self_eq_true, dTT, dFF, dT, dF, bigI, big0, qkn, qn7, qn8, List.length_set, List.length_replicate, Int.toNat_natCast, qdc, qdd, imax, imin, qcu]
  unfold qat
  cases h : qjz a0 0 a1
  · rfl
  · have hv : qab a1 := qj3 _ _ _ h
    simp (disch := omega) only [qaw, nth0, nth1, nth2, nth3, bit, qde, qdf, qdq, qdv, qdw, qdx, qdy, qdz, qd0, qd1, qdg, qdh, qdi, qdj, qdk, qdl, qdm, qdn, qdo, qdp, qdr, qds, qdt, qdu, qnn, qnm, qno, qko, qlb, qlc, qhh, qax, qm5, nI, qd7, qd5, Bool.not_true, Bool.not_false, Bool.and_true, Bool.true_and, Bool.and_false, Bool.false_and, Bool.or_true, Bool.true_or, Bool.or_false, Bool.false_or, beq_self_eq_true, dTT, dFF, dT, dF, bigI, big0, qkn, qn7, qn8, List.length_set, List.length_replicate, Int.toNat_natCast, qdc, qdd, imax, imin, qc4 k hk]
    rw [qc4 _ (by omega) _ _ _ hl hv]; simp (disch := omega) only [qaw, nth0, nth1, nth2, nth3, bit, qde, qdf, qdq, qdv, qdw, qdx, qdy, qdz, qd0, qd1, qdg, qdh, qdi, qdj, qdk, qdl, qdm, qdn, qdo, qdp, qdr, qds, qdt, qdu, qnn, qnm, qno, qko, qlb, qlc, qhh, qax, qm5, nI, qd7, qd5, Bool.not_true, Bool.not_false, Bool.and_true, Bool.true_and, Bool.and_false, Bool.false_and, Bool.or_true, Bool.true_or, Bool.or_false, Bool.false_or, beq_self_eq_true, dTT, dFF, dT, dF, bigI, big0, qkn, qn7, qn8, List.length_set, List.length_replicate, Int.toNat_natCast, qdc, qdd, imax, imin]
theorem qa7 (k : Nat) (hk : 2000000 ≤ k) (a0 : Int) (a1z : Bool) (a1 : List (Int × Int × Int)) (hl : (a1.length : Int) ≤ 1048576) : go (k + 7) impl_IsBalanced [(.agg [(.int .i64 (a0)), (.arr false (a1z) (.r3 (a1)))])] = some [.bool (qat a0 a1)] := by
  rw [qem]
  simp (disch := omega) only [qaw, nth0, nth1, nth2, nth3, bit, qde, qdf, qdq, qdv, qdw, qdx, qdy, qdz, qd0, qd1, qdg, qdh, qdi, qdj, qdk, qdl, qdm, qdn, qdo, qdp, qdr, qds, qdt, qdu, qnn, qnm, qno, qko, qlb, qlc, qhh, qax, qm5, nI, qd7, qd5, Bool.not_true, Bool.not_false, Bool.and_true, Bool.true_and, Bool.and_false, Bool.false_and, Bool.or_true, Bool.true_or, Bool.or_false, Bool.false_or, beq_self_eq_true, dTT, dFF, dT, dF, bigI, big0, qkn, qn7, qn8, List.length_set, List.length_replicate, Int.toNat_natCast, qdc, qdd, imax, imin, qa9]
  unfold qat
  cases h : qjz a0 0 a1
  · rfl
  · have hv : qab a1 := qj3 _ _ _ h
    rw [qd7, qbw _ (by omega) _ _ _ hl hv]; simp (disch := omega) only [qaw, nth0, nth1, nth2, nth3, bit, qde, qdf, qdq, qdv, qdw, qdx, qdy, qdz, qd0, qd1, qdg, qdh, qdi, qdj, qdk, qdl, qdm, qdn, qdo, qdp, qdr, qds, qdt, qdu, qnn, qnm, qno, qko, qlb, qlc, qhh, qax, qm5, nI, qd7, qd5, Bool.not_true, Bool.not_false, Bool.and_true, Bool.true_and, Bool.and_false, Bool.false_and, Bool.or_true, Bool.true_or, Bool.or_false, Bool.false_or, beq_self_eq_true, dTT, dFF, dT, dF, bigI, big0, qkn, qn7, qn8, List.length_set, List.length_replicate, Int.toNat_natCast, qdc, qdd, imax, imin]
def isum : List Int → Int
  | [] => 0
  | x :: l => x + isum l
theorem qhk {B : Int} : ∀ (l : List Int), (∀ x ∈ l, 0 ≤ x ∧ x ≤ B) → 0 ≤ isum l ∧ isum l ≤ B * l.length
  | [], h => by simp [isum]
  | x :: l, h => by
    have := qhk l fun y hy => h y (by simp [hy])
    have h2 := h x (by simp)
    simp only [isum, List.length_cons, Int.natCast_add, Int.natCast_one, Int.mul_add, Int.mul_one]; omega
theorem qhj {B : Int} (hB : 0 ≤ B) : ∀ (l : List Int) (i : Nat), (∀ x ∈ l, 0 ≤ x ∧ x ≤ B) → 0 ≤ isum (l.drop i) ∧ isum (l.drop i) ≤ isum l
  | [], i, h => by simp [isum]
  | x :: l, 0, h => by have := qhk (x :: l) h; simp only [List.drop_zero]; omega
  | x :: l, i + 1, h => by
    have := qhj hB l i fun y hy => h y (by simp [hy])
    have h2 := h x (by simp)
    simp only [isum, List.drop_succ_cons]; omega
theorem qjl (k : Nat) (hk : 2000000 ≤ k) (fu : List (Nat × Nat)) (z : Bool) (l : List Int) (hl : (l.length : Int) ≤ 1048576) (hb : ∀ x ∈ l, 0 ≤ x ∧ x ≤ 1000000000000) : ∀ (n i : Nat) (s : Int), i ≤ l.length → l.length - i < n → s + isum (l.drop i) = isum l → 0 ≤ s →
    lp k spec_l07Sum [] fu 3 (n) (qmi s (i : Int) z l) = some [.int .i64 (isum l)]
  | 0, i, s, hi, hn, hs, h0 => by omega
  | n + 1, i, s, hi, hn, hs, h0 => by
    rw [qie]
    by_cases h : i < l.length
    · rw [qeb h 0] at hs
      simp only [isum] at hs
      have h1 := qhk l hb
      have h2 := qhj (by omega) l (i + 1) hb
      have h3 := hb _ (qg7 h 0)
      simp (disch := omega) only [qaw, nth0, nth1, nth2, nth3, bit, qde, qdf, qdq, qdv, qdw, qdx, qdy, qdz, qd0, qd1, qdg, qdh, qdi, qdj, qdk, qdl, qdm, qdn, qdo, qdp, qdr, qds, qdt, qdu, qnn, qnm, qno, qko, qlb, qlc, qhh, qax, qm5, nI, qd7, qd5, Bool.not_true, Bool.not_false, Bool.and_true, Bool.true_and, Bool.and_false, Bool.false_and, Bool.or_true, Bool.true_or, Bool.or_false, Bool.false_or, beq_self_eq_true, dTT, dFF, dT, dF, bigI, big0, qkn, qn7, qn8, List.length_set, List.length_replicate, Int.toNat_natCast, qdc, qdd, imax, imin]
      exact qjl k hk fu z l hl hb n (i + 1) _ (by omega) (by omega) (by omega) (by omega)
    · rw [List.drop_of_length_le (by omega)] at hs
      simp only [isum] at hs
      simp (disch := omega) only [qaw, nth0, nth1, nth2, nth3, bit, qde, qdf, qdq, qdv, qdw, qdx, qdy, qdz, qd0, qd1, qdg, qdh, qdi, qdj, qdk, qdl, qdm, qdn, qdo, qdp, qdr, qds, qdt, qdu, qnn, qnm, qno, qko, qlb, qlc, qhh, qax, qm5, nI, qd7, qd5, Bool.not_true, Bool.not_false, Bool.and_true, Bool.true_and, Bool.and_false, Bool.false_and, Bool.or_true, Bool.true_or, Bool.or_false, Bool.false_or, beq_self_eq_true, dTT, dFF, dT, dF, bigI, big0, qkn, qn7, qn8, List.length_set, List.length_replicate, Int.toNat_natCast, qdc, qdd, imax, imin]
      rw [show s = isum l by omega]
theorem qc6 (k : Nat) (hk : 2000000 ≤ k) (az : Bool) (a : List Int) (hl : (a.length : Int) ≤ 1048576) (hb : ∀ x ∈ a, 0 ≤ x ∧ x ≤ 1000000000000) : go (k + 1) spec_l07Sum [(.arr false (az) (.ints .i64 (a)))] = some [.int .i64 (isum a)] := by
  rw [qgn]
  exact qjl k hk [] az a hl hb _ 0 0 (by omega) (by omega) (by simp) (by omega)
theorem qiy (k : Nat) (hk : 2000000 ≤ k) (fu : List (Nat × Nat)) (z : Bool) (l : List Int) (hl : (l.length : Int) ≤ 1048576) (hb : ∀ x ∈ l, 0 ≤ x ∧ x ≤ 1000000000000) : ∀ (n i : Nat) (s : Int), i ≤ l.length → l.length - i < n → s + isum (l.drop i) = isum l → 0 ≤ s →
    lp k impl_sum [] fu 3 (n) (qly s (l.length : Int) (i : Int) z l) = some [.int .i64 (isum l)]
  | 0, i, s, hi, hn, hs, h0 => by omega
  | n + 1, i, s, hi, hn, hs, h0 => by
    rw [qhu]
    by_cases h : i < l.length
    · rw [qeb h 0] at hs
      simp only [isum] at hs
      have h1 := qhk l hb
      have h2 := qhj (by omega) l (i + 1) hb
      have h3 := hb _ (qg7 h 0)
      simp (disch := omega) only [qaw, nth0, nth1, nth2, nth3, bit, qde, qdf, qdq, qdv, qdw, qdx, qdy, qdz, qd0, qd1, qdg, qdh, qdi, qdj, qdk, qdl, qdm, qdn, qdo, qdp, qdr, qds, qdt, qdu, qnn, qnm, qno, qko, qlb, qlc, qhh, qax, qm5, nI, qd7, qd5, Bool.not_true, Bool.not_false, Bool.and_true, Bool.true_and, Bool.and_false, Bool.false_and, Bool.or_true, Bool.true_or, Bool.or_false, Bool.false_or, beq_self_eq_true, dTT, dFF, dT, dF, bigI, big0, qkn, qn7, qn8, List.length_set, List.length_replicate, Int.toNat_natCast, qdc, qdd, imax, imin]
      exact qiy k hk fu z l hl hb n (i + 1) _ (by omega) (by omega) (by omega) (by omega)
    · rw [List.drop_of_length_le (by omega)] at hs
      simp only [isum] at hs
      simp (disch := omega) only [qaw, nth0, nth1, nth2, nth3, bit, qde, qdf, qdq, qdv, qdw, qdx, qdy, qdz, qd0, qd1, qdg, qdh, qdi, qdj, qdk, qdl, qdm, qdn, qdo, qdp, qdr, qds, qdt, qdu, qnn, qnm, qno, qko, qlb, qlc, qhh, qax, qm5, nI, qd7, qd5, Bool.not_true, Bool.not_false, Bool.and_true, Bool.true_and, Bool.and_false, Bool.false_and, Bool.or_true, Bool.true_or, Bool.or_false, Bool.false_or, beq_self_eq_true, dTT, dFF, dT, dF, bigI, big0, qkn, qn7, qn8, List.length_set, List.length_replicate, Int.toNat_natCast, qdc, qdd, imax, imin]
      rw [show s = isum l by omega]
theorem qbu (k : Nat) (hk : 2000000 ≤ k) (az : Bool) (a : List Int) (hl : (a.length : Int) ≤ 1048576) (hb : ∀ x ∈ a, 0 ≤ x ∧ x ≤ 1000000000000) : go (k + 1) impl_sum [(.arr false (az) (.ints .i64 (a)))] = some [.int .i64 (isum a)] := by
  rw [qfc]
  exact qiy k hk [] az a hl hb _ 0 0 (by omega) (by omega) (by simp) (by omega)
def qjv : List Int → List Int → Bool
  | m :: ms, t :: ts => inR m 0 10000000 && (inR t 0 (1000 * m) && qjv ms ts)
  | _, _ => true
theorem qjx : ∀ (ms ts : List Int), ms.length = ts.length → qjv ms ts = true → (∀ x ∈ ms, 0 ≤ x ∧ x ≤ 10000000) ∧ (∀ x ∈ ts, 0 ≤ x ∧ x ≤ 10000000000)
  | [], ts, hl, h => by cases ts <;> simp_all
  | m :: ms, [], hl, h => by simp at hl
  | m :: ms, t :: ts, hl, h => by
    simp only [qjv, Bool.and_eq_true, qhf] at h
    have := qjx ms ts (by simpa using hl) h.2.2
    refine ⟨fun x hx => ?_, fun x hx => ?_⟩
    · rcases List.mem_cons.1 hx with rfl | hx
      · exact h.1
      · exact this.1 x hx
    · rcases List.mem_cons.1 hx with rfl | hx
      · omega
      · exact this.2 x hx
theorem qjw : ∀ (ms ts : List Int), ms.length = ts.length → qjv ms ts = true → ∀ i, 0 ≤ ms.getD i 0 ∧ ms.getD i 0 ≤ 10000000 ∧ 0 ≤ ts.getD i 0 ∧ ts.getD i 0 ≤ 1000 * ms.getD i 0
  | [], ts, hl, h, i => by cases ts <;> simp_all
  | m :: ms, [], hl, h, i => by simp at hl
  | m :: ms, t :: ts, hl, h, i => by
    simp only [qjv, Bool.and_eq_true, qhf] at h
    cases i with
    | zero => simp; omega
    | succ i => have := qjw ms ts (by simpa using hl) h.2.2 i; simpa using this
def qau : List Int → Bool
  | [] => true
  | b :: l => inR b 0 1000000 && qau l
theorem qav : ∀ (l : List Int), qau l = true → ∀ x ∈ l, 0 ≤ x ∧ x ≤ 1000000
  | [], h, x, hx => by cases hx
  | b :: l, h, x, hx => by
    simp only [qau, Bool.and_eq_true, qhf] at h
    rcases List.mem_cons.1 hx with rfl | hx
    · exact h.1
    · exact qav l h.2 x hx
def stOk (r : Int) (l : List Cell) (m t b : List Int) : Bool :=
  qat r l && (decide (m.length = l.length) && (decide (t.length = l.length) && (decide ((b.length : Int) = r) && (qjv m t && (qau b && decide (isum m ≤ 10000000))))))
theorem qjh (k : Nat) (hk : 2000000 ≤ k) (fu : List (Nat × Nat)) (r : Int) (z1 z2 z3 z4 : Bool) (l : List Cell) (m t b : List Int) (hm : (m.length : Int) ≤ 1048576) (hb : (b.length : Int) ≤ 1048576) (hx : ∀ x ∈ m, 0 ≤ x ∧ x ≤ 10000000) : ∀ (n i : Nat), i ≤ b.length → b.length - i < n →
    lp (k + 6) spec_StateOk [] fu 9 (n) (qmg (i : Int) z1 l z2 m z3 t z4 b r) = some [.bool (qau (b.drop i) && decide (isum m ≤ 10000000))]
  | 0, i, hi, hn => by omega
  | n + 1, i, hi, hn => by
    rw [qic]
    by_cases h : i < b.length
    · rw [qeb h 0]
      have e := qjh k hk fu r z1 z2 z3 z4 l m t b hm hb hx n (i + 1) (by omega) (by omega)
      simp (disch := omega) only [qaw, nth0, nth1, nth2, nth3, bit, qde, qdf, qdq, qdv, qdw, qdx, qdy, qdz, qd0, qd1, qdg, qdh, qdi, qdj, qdk, qdl, qdm, qdn, qdo, qdp, qdr, qds, qdt, qdu, qnn, qnm, qno, qko, qlb, qlc, qhh, qax, qm5, nI, qd7, qd5, Bool.not_true, Bool.not_false, Bool.and_true, Bool.true_and, Bool.and_false, Bool.false_and, Bool.or_true, Bool.true_or, Bool.or_false, Bool.false_or, beq_self_eq_true, dTT, dFF, dT, dF, bigI, big0, qkn, qn7, qn8, List.length_set, List.length_replicate, Int.toNat_natCast, qdc, qdd, imax, imin, qc0, qau, e, qd8, Bool.and_assoc]
    · rw [List.drop_of_length_le (by omega)]
      have hx' : ∀ x ∈ m, 0 ≤ x ∧ x ≤ 1000000000000 := fun x hh => by have := hx x hh; omega
      rw [show decide ((i : Int) < nI b.length) = false by apply dF; simp only [nI]; omega, qd5, qc6 _ (by omega) _ _ hm hx']
      simp (disch := omega) only [qaw, nth0, nth1, nth2, nth3, bit, qde, qdf, qdq, qdv, qdw, qdx, qdy, qdz, qd0, qd1, qdg, qdh, qdi, qdj, qdk, qdl, qdm, qdn, qdo, qdp, qdr, qds, qdt, qdu, qnn, qnm, qno, qko, qlb, qlc, qhh, qax, qm5, nI, qd7, qd5, Bool.not_true, Bool.not_false, Bool.and_true, Bool.true_and, Bool.and_false, Bool.false_and, Bool.or_true, Bool.true_or, Bool.or_false, Bool.false_or, beq_self_eq_true, dTT, dFF, dT, dF, bigI, big0, qkn, qn7, qn8, List.length_set, List.length_replicate, Int.toNat_natCast, qdc, qdd, imax, imin, qau]
theorem qjg (k : Nat) (hk : 2000000 ≤ k) (fu : List (Nat × Nat)) (r : Int) (z1 z2 z3 z4 : Bool) (l : List Cell) (m t b : List Int) (hm : (m.length : Int) ≤ 1048576) (ht : t.length = m.length) : ∀ (n i : Nat), i ≤ m.length → m.length - i < n →
    lp (k + 6) spec_StateOk [] fu 4 (n) (qmf (i : Int) z1 l z2 m z3 t z4 b r) = cond (qjv (m.drop i) (t.drop i)) (lp (k + 6) spec_StateOk [] fu 9 (k + 6) (qmg 0 z1 l z2 m z3 t z4 b r)) (some [.bool false])
  | 0, i, hi, hn => by omega
  | n + 1, i, hi, hn => by
    rw [qib]
    by_cases h : i < m.length
    · rw [qeb h 0, qeb (l := t) (by omega : i < t.length) 0]
      have e := qjg k hk fu r z1 z2 z3 z4 l m t b hm ht n (i + 1) (by omega) (by omega)
      by_cases h1 : inR (m.getD i 0) 0 10000000 = true
      · have h2 := qhf.1 h1
        simp (disch := omega) only [qaw, nth0, nth1, nth2, nth3, bit, qde, qdf, qdq, qdv, qdw, qdx, qdy, qdz, qd0, qd1, qdg, qdh, qdi, qdj, qdk, qdl, qdm, qdn, qdo, qdp, qdr, qds, qdt, qdu, qnn, qnm, qno, qko, qlb, qlc, qhh, qax, qm5, nI, qd7, qd5, Bool.not_true, Bool.not_false, Bool.and_true, Bool.true_and, Bool.and_false, Bool.false_and, Bool.or_true, Bool.true_or, Bool.or_false, Bool.false_or, beq_self_eq_true, dTT, dFF, dT, dF, bigI, big0, qkn, qn7, qn8, List.length_set, List.length_replicate, Int.toNat_natCast, qdc, qdd, imax, imin, qc0, qjv, e, h1, qd6, qd4]
      · have h1 : inR (m.getD i 0) 0 10000000 = false := by simpa using h1
        simp (disch := omega) only [qaw, nth0, nth1, nth2, nth3, bit, qde, qdf, qdq, qdv, qdw, qdx, qdy, qdz, qd0, qd1, qdg, qdh, qdi, qdj, qdk, qdl, qdm, qdn, qdo, qdp, qdr, qds, qdt, qdu, qnn, qnm, qno, qko, qlb, qlc, qhh, qax, qm5, nI, qd7, qd5, Bool.not_true, Bool.not_false, Bool.and_true, Bool.true_and, Bool.and_false, Bool.false_and, Bool.or_true, Bool.true_or, Bool.or_false, Bool.false_or, beq_self_eq_true, dTT, dFF, dT, dF, bigI, big0, qkn, qn7, qn8, List.length_set, List.length_replicate, Int.toNat_natCast, qdc, qdd, imax, imin, qc0, qjv, h1]
    · rw [List.drop_of_length_le (by omega), List.drop_of_length_le (by omega)]
      simp (disch := omega) only [qaw, nth0, nth1, nth2, nth3, bit, qde, qdf, qdq, qdv, qdw, qdx, qdy, qdz, qd0, qd1, qdg, qdh, qdi, qdj, qdk, qdl, qdm, qdn, qdo, qdp, qdr, qds, qdt, qdu, qnn, qnm, qno, qko, qlb, qlc, qhh, qax, qm5, nI, qd7, qd5, Bool.not_true, Bool.not_false, Bool.and_true, Bool.true_and, Bool.and_false, Bool.false_and, Bool.or_true, Bool.true_or, Bool.or_false, Bool.false_or, beq_self_eq_true, dTT, dFF, dT, dF, bigI, big0, qkn, qn7, qn8, List.length_set, List.length_replicate, Int.toNat_natCast, qdc, qdd, imax, imin, qjv]
theorem qcy (k : Nat) (hk : 2000000 ≤ k) (a0 : Int) (a1z : Bool) (a1 : List (Int × Int × Int)) (a2z : Bool) (a2 : List Int) (a3z : Bool) (a3 : List Int) (a4z : Bool) (a4 : List Int) (hl : (a1.length : Int) ≤ 1048576) (hb : (a4.length : Int) ≤ 1048576) : go (k + 7) spec_StateOk [(.agg [(.int .i64 (a0)), (.arr false (a1z) (.r3 (a1))), (.arr false (a2z) (.ints .i64 (a2))), (.arr false (a3z) (.ints .i64 (a3))), (.arr false (a4z) (.ints .i64 (a4)))])] = some [.bool (stOk a0 a1 a2 a3 a4)] := by
  rw [qgf]
  simp (disch := omega) only [qaw, nth0, nth1, nth2, nth3, bit, qde, qdf, qdq, qdv, qdw, qdx, qdy, qdz, qd0, qd1, qdg, qdh, qdi, qdj, qdk, qdl, qdm, qdn, qdo, qdp, qdr, qds, qdt, qdu, qnn, qnm, qno, qko, qlb, qlc, qhh, qax, qm5, nI, qd7, qd5, Bool.not_true, Bool.not_false, Bool.and_true, Bool.true_and, Bool.and_false, Bool.false_and, Bool.or_true, Bool.true_or, Bool.or_false, Bool.false_or, beq_self_eq_true, dTT, dFF, dT, dF, bigI, big0, qkn, qn7, qn8, List.length_set, List.length_replicate, Int.toNat_natCast, qdc, qdd, imax, imin, qcs]
  unfold stOk
  cases qat a0 a1
  · rfl
  by_cases h1 : a2.length = a1.length
  case neg => simp (disch := omega) only [qaw, nth0, nth1, nth2, nth3, bit, qde, qdf, qdq, qdv, qdw, qdx, qdy, qdz, qd0, qd1, qdg, qdh, qdi, qdj, qdk, qdl, qdm, qdn, qdo, qdp, qdr, qds, qdt, qdu, qnn, qnm, qno, qko, qlb, qlc, qhh, qax, qm5, nI, qd7, qd5, Bool.not_true, Bool.not_false, Bool.and_true, Bool.true_and, Bool.and_false, Bool.false_and, Bool.or_true, Bool.true_or, Bool.or_false, Bool.false_or, beq_self_eq_true, dTT, dFF, dT, dF, bigI, big0, qkn, qn7, qn8, List.length_set, List.length_replicate, Int.toNat_natCast, qdc, qdd, imax, imin]
  by_cases h2 : a3.length = a1.length
  case neg => simp (disch := omega) only [qaw, nth0, nth1, nth2, nth3, bit, qde, qdf, qdq, qdv, qdw, qdx, qdy, qdz, qd0, qd1, qdg, qdh, qdi, qdj, qdk, qdl, qdm, qdn, qdo, qdp, qdr, qds, qdt, qdu, qnn, qnm, qno, qko, qlb, qlc, qhh, qax, qm5, nI, qd7, qd5, Bool.not_true, Bool.not_false, Bool.and_true, Bool.true_and, Bool.and_false, Bool.false_and, Bool.or_true, Bool.true_or, Bool.or_false, Bool.false_or, beq_self_eq_true, dTT, dFF, dT, dF, bigI, big0, qkn, qn7, qn8, List.length_set, List.length_replicate, Int.toNat_natCast, qdc, qdd, imax, imin]
  by_cases h3 : (a4.length : Int) = a0
  case neg => simp (disch := omega) only [qaw, nth0, nth1, nth2, nth3, bit, qde, qdf, qdq, qdv, qdw, qdx, qdy, qdz, qd0, qd1, qdg, qdh, qdi, qdj, qdk, qdl, qdm, qdn, qdo, qdp, qdr, qds, qdt, qdu, qnn, qnm, qno, qko, qlb, qlc, qhh, qax, qm5, nI, qd7, qd5, Bool.not_true, Bool.not_false, Bool.and_true, Bool.true_and, Bool.and_false, Bool.false_and, Bool.or_true, Bool.true_or, Bool.or_false, Bool.false_or, beq_self_eq_true, dTT, dFF, dT, dF, bigI, big0, qkn, qn7, qn8, List.length_set, List.length_replicate, Int.toNat_natCast, qdc, qdd, imax, imin]
  simp (disch := omega) only [qaw, nth0, nth1, nth2, nth3, bit, qde, qdf, qdq, qdv, qdw, qdx, qdy, qdz, qd0, qd1, qdg, qdh, qdi, qdj, qdk, qdl, qdm, qdn, qdo, qdp, qdr, qds, qdt, qdu, qnn, qnm, qno, qko, qlb, qlc, qhh, qax, qm5, nI, qd7, qd5, Bool.not_true, Bool.not_false, Bool.and_true, Bool.true_and, Bool.and_false, Bool.false_and, Bool.or_true, Bool.true_or, Bool.or_false, Bool.false_or, beq_self_eq_true, dTT, dFF, dT, dF, bigI, big0, qkn, qn7, qn8, List.length_set, List.length_replicate, Int.toNat_natCast, qdc, qdd, imax, imin]
  refine Eq.trans (qjg k hk [] a0 a1z a2z a3z a4z a1 a2 a3 a4 (by omega) (by omega) _ 0 (by omega) (by omega)) ?_
  simp only [List.drop_zero]
  cases h4 : qjv a2 a3
  · rfl
  · have hx := (qjx a2 a3 (by omega) h4).1
    have e := qjh k hk [] a0 a1z a2z a3z a4z a1 a2 a3 a4 (by omega) hb hx (k + 6) 0 (by omega) (by omega)
    simp only [List.drop_zero] at e
    simp only [qd7, Bool.true_and, dT (h1), dT (h2), dT (h3), decide_true]
    exact e
theorem qbp (k : Nat) (hk : 2000000 ≤ k) (a : Int) : go (k + 2) impl_isBed [(.int .i64 (a))] = some [.bool (inR a 0 1000000)] := by
  rw [qfa]; simp (disch := omega) only [qaw, nth0, nth1, nth2, nth3, bit, qde, qdf, qdq, qdv, qdw, qdx, qdy, qdz, qd0, qd1, qdg, qdh, qdi, qdj, qdk, qdl, qdm, qdn, qdo, qdp, qdr, qds, qdt, qdu, qnn, qnm, qno, qko, qlb, qlc, qhh, qax, qm5, nI, qd7, qd5, Bool.not_true, Bool.not_false, Bool.and_true, Bool.true_and, Bool.and_false, Bool.false_and, Bool.or_true, Bool.true_or, Bool.or_false, Bool.false_or, beq_self_eq_true, dTT, dFF, dT, dF, bigI, big0, qkn, qn7, qn8, List.length_set, List.length_replicate, Int.toNat_natCast, qdc, qdd, imax, imin, qbx]
theorem qbo (k : Nat) (hk : 2000000 ≤ k) (a : Int) : go (k + 3) impl_State_hasCells_1 [(.int .i64 (a))] = some [.bool (!inR a 0 1000000)] := by
  rw [qey]; simp (disch := omega) only [qaw, nth0, nth1, nth2, nth3, bit, qde, qdf, qdq, qdv, qdw, qdx, qdy, qdz, qd0, qd1, qdg, qdh, qdi, qdj, qdk, qdl, qdm, qdn, qdo, qdp, qdr, qds, qdt, qdu, qnn, qnm, qno, qko, qlb, qlc, qhh, qax, qm5, nI, qd7, qd5, Bool.not_true, Bool.not_false, Bool.and_true, Bool.true_and, Bool.and_false, Bool.false_and, Bool.or_true, Bool.true_or, Bool.or_false, Bool.false_or, beq_self_eq_true, dTT, dFF, dT, dF, bigI, big0, qkn, qn7, qn8, List.length_set, List.length_replicate, Int.toNat_natCast, qdc, qdd, imax, imin, qbp]
theorem qi0 (k : Nat) (hk : 2000000 ≤ k) (fu : List (Nat × Nat)) (z : Bool) (l : List Int) (hl : (l.length : Int) ≤ 1048576) : ∀ (n i : Nat), i ≤ l.length → l.length - i < n →
    ∃ j : Int, lp (k + 3) slices_IndexFunc_int_int [] fu 2 (n) (qmc (l.length : Int) (i : Int) z l) = some [.int .i64 j] ∧ decide (0 ≤ j) = !qau (l.drop i)
  | 0, i, hi, hn => by omega
  | n + 1, i, hi, hn => by
    rw [qh8]
    by_cases h : i < l.length
    · rw [qeb h 0]
      obtain ⟨j, e1, e2⟩ := qi0 k hk fu z l hl n (i + 1) (by omega) (by omega)
      simp (disch := omega) only [qaw, nth0, nth1, nth2, nth3, bit, qde, qdf, qdq, qdv, qdw, qdx, qdy, qdz, qd0, qd1, qdg, qdh, qdi, qdj, qdk, qdl, qdm, qdn, qdo, qdp, qdr, qds, qdt, qdu, qnn, qnm, qno, qko, qlb, qlc, qhh, qax, qm5, nI, qd7, qd5, Bool.not_true, Bool.not_false, Bool.and_true, Bool.true_and, Bool.and_false, Bool.false_and, Bool.or_true, Bool.true_or, Bool.or_false, Bool.false_or, beq_self_eq_true, dTT, dFF, dT, dF, bigI, big0, qkn, qn7, qn8, List.length_set, List.length_replicate, Int.toNat_natCast, qdc, qdd, imax, imin, qbo, qau, e1]
      cases inR (l.getD i 0) 0 1000000
      · exact ⟨i, rfl, by rw [dT (by omega)]; rfl⟩
      · exact ⟨j, rfl, by rw [e2]; rfl⟩
    · rw [List.drop_of_length_le (by omega)]
      simp (disch := omega) only [qaw, nth0, nth1, nth2, nth3, bit, qde, qdf, qdq, qdv, qdw, qdx, qdy, qdz, qd0, qd1, qdg, qdh, qdi, qdj, qdk, qdl, qdm, qdn, qdo, qdp, qdr, qds, qdt, qdu, qnn, qnm, qno, qko, qlb, qlc, qhh, qax, qm5, nI, qd7, qd5, Bool.not_true, Bool.not_false, Bool.and_true, Bool.true_and, Bool.and_false, Bool.false_and, Bool.or_true, Bool.true_or, Bool.or_false, Bool.false_or, beq_self_eq_true, dTT, dFF, dT, dF, bigI, big0, qkn, qn7, qn8, List.length_set, List.length_replicate, Int.toNat_natCast, qdc, qdd, imax, imin, qau]
      exact ⟨-1, rfl, rfl⟩
theorem qaz (k : Nat) (hk : 2000000 ≤ k) (z : Bool) (l : List Int) (hl : (l.length : Int) ≤ 1048576) : go (k + 5) slices_ContainsFunc_int_int [.arr false z (.ints .i64 l), .fn impl_State_hasCells_1 []] = some [.bool (!qau l)] := by
  rw [qf2, qf5]
  obtain ⟨j, e1, e2⟩ := qi0 k hk [] z l hl (k + 3) 0 (by omega) (by omega)
  have e1' := e1
  simp only [nI] at *
  rw [show ((0 : Nat) : Int) = 0 from rfl] at e1'
  rw [e1']
  simp (disch := omega) only [qaw, nth0, nth1, nth2, nth3, bit, qde, qdf, qdq, qdv, qdw, qdx, qdy, qdz, qd0, qd1, qdg, qdh, qdi, qdj, qdk, qdl, qdm, qdn, qdo, qdp, qdr, qds, qdt, qdu, qnn, qnm, qno, qko, qlb, qlc, qhh, qax, qm5, nI, qd7, qd5, Bool.not_true, Bool.not_false, Bool.and_true, Bool.true_and, Bool.and_false, Bool.false_and, Bool.or_true, Bool.true_or, Bool.or_false, Bool.false_or, beq_self_eq_true, dTT, dFF, dT, dF, bigI, big0, qkn, qn7, qn8, List.length_set, List.length_replicate, Int.toNat_natCast, qdc, qdd, imax, imin]
  rw [show decide ((0 : Int) ≤ j) = !qau l from e2]
theorem qis (k : Nat) (hk : 2000000 ≤ k) (fu : List (Nat × Nat)) (r : Int) (z1 z2 z3 z4 : Bool) (l : List Cell) (m t b : List Int) (hm : (m.length : Int) ≤ 1048576) (ht : t.length = m.length) (s : List D)
    (hs : qjv m t = true → go (k + 5) impl_sum [.arr false z2 (.ints .i64 m)] = some [.int .i64 (isum m)]) (P : Bool) : ∀ (n i : Nat), i ≤ m.length → m.length - i < n → (qjv (m.drop i) (t.drop i) = true → qjv m t = true) →
    lp (k + 5) impl_State_hasCells [] fu 5 (n) (qlu (m.length : Int) (i : Int) z1 l z2 m z3 t z4 b r) = some [.bool (qjv (m.drop i) (t.drop i) && decide (isum m ≤ 10000000))]
  | 0, i, hi, hn, hq => by omega
  | n + 1, i, hi, hn, hq => by
    rw [qhq]
    by_cases h : i < m.length
    · rw [qeb h 0, qeb (l := t) (by omega : i < t.length) 0] at hq ⊢
      by_cases h1 : inR (m.getD i 0) 0 10000000 = true
      · have h2 := qhf.1 h1
        by_cases h3 : inR (t.getD i 0) 0 (1000 * m.getD i 0) = true
        · have e := qis k hk fu r z1 z2 z3 z4 l m t b hm ht s hs P n (i + 1) (by omega) (by omega) (fun hh => hq (by simp only [qjv, h1, h3, hh, Bool.and_self]))
          simp (disch := omega) only [qaw, nth0, nth1, nth2, nth3, bit, qde, qdf, qdq, qdv, qdw, qdx, qdy, qdz, qd0, qd1, qdg, qdh, qdi, qdj, qdk, qdl, qdm, qdn, qdo, qdp, qdr, qds, qdt, qdu, qnn, qnm, qno, qko, qlb, qlc, qhh, qax, qm5, nI, qd7, qd5, Bool.not_true, Bool.not_false, Bool.and_true, Bool.true_and, Bool.and_false, Bool.false_and, Bool.or_true, Bool.true_or, Bool.or_false, Bool.false_or, beq_self_eq_true, dTT, dFF, dT, dF, bigI, big0, qkn, qn7, qn8, List.length_set, List.length_replicate, Int.toNat_natCast, qdc, qdd, imax, imin, qbx, qjv, e, h1, h3]
        · have h3 : inR (t.getD i 0) 0 (1000 * m.getD i 0) = false := by simpa using h3
          simp (disch := omega) only [qaw, nth0, nth1, nth2, nth3, bit, qde, qdf, qdq, qdv, qdw, qdx, qdy, qdz, qd0, qd1, qdg, qdh, qdi, qdj, qdk, qdl, qdm, qdn, qdo, qdp, qdr, qds, qdt, qdu, qnn, qnm, qno, qko, qlb, qlc, qhh, qax, qm5, nI, qd7, qd5, Bool.not_true, Bool.not_false, Bool.and_true, Bool.true_and, Bool.and_false, Bool.false_and, Bool.or_true, Bool.true_or, Bool.or_false, Bool.false_or, beq_self_eq_true, dTT, dFF, dT, dF, bigI, big0, qkn, qn7, qn8, List.length_set, List.length_replicate, Int.toNat_natCast, qdc, qdd, imax, imin, qbx, qjv, h1, h3]
      · have h1 : inR (m.getD i 0) 0 10000000 = false := by simpa using h1
        simp (disch := omega) only [qaw, nth0, nth1, nth2, nth3, bit, qde, qdf, qdq, qdv, qdw, qdx, qdy, qdz, qd0, qd1, qdg, qdh, qdi, qdj, qdk, qdl, qdm, qdn, qdo, qdp, qdr, qds, qdt, qdu, qnn, qnm, qno, qko, qlb, qlc, qhh, qax, qm5, nI, qd7, qd5, Bool.not_true, Bool.not_false, Bool.and_true, Bool.true_and, Bool.and_false, Bool.false_and, Bool.or_true, Bool.true_or, Bool.or_false, Bool.false_or, beq_self_eq_true, dTT, dFF, dT, dF, bigI, big0, qkn, qn7, qn8, List.length_set, List.length_replicate, Int.toNat_natCast, qdc, qdd, imax, imin, qbx, qjv, h1]
    · rw [List.drop_of_length_le (by omega), List.drop_of_length_le (by omega)] at hq ⊢
      have e := hs (hq rfl)
      simp (disch := omega) only [qaw, nth0, nth1, nth2, nth3, bit, qde, qdf, qdq, qdv, qdw, qdx, qdy, qdz, qd0, qd1, qdg, qdh, qdi, qdj, qdk, qdl, qdm, qdn, qdo, qdp, qdr, qds, qdt, qdu, qnn, qnm, qno, qko, qlb, qlc, qhh, qax, qm5, nI, qd7, qd5, Bool.not_true, Bool.not_false, Bool.and_true, Bool.true_and, Bool.and_false, Bool.false_and, Bool.or_true, Bool.true_or, Bool.or_false, Bool.false_or, beq_self_eq_true, dTT, dFF, dT, dF, bigI, big0, qkn, qn7, qn8, List.length_set, List.length_replicate, Int.toNat_natCast, qdc, qdd, imax, imin, qjv, e]
theorem qbn (k : Nat) (hk : 2000000 ≤ k) (a0 : Int) (a1z : Bool) (a1 : List (Int × Int × Int)) (a2z : Bool) (a2 : List Int) (a3z : Bool) (a3 : List Int) (a4z : Bool) (a4 : List Int) (hl : (a1.length : Int) ≤ 1048576) (hb : (a4.length : Int) ≤ 1048576) : go (k + 6) impl_State_hasCells [(.agg [(.int .i64 (a0)), (.arr false (a1z) (.r3 (a1))), (.arr false (a2z) (.ints .i64 (a2))), (.arr false (a3z) (.ints .i64 (a3))), (.arr false (a4z) (.ints .i64 (a4)))])] = some [.bool (decide (a2.length = a1.length) && (decide (a3.length = a1.length) && (decide ((a4.length : Int) = a0) && (qjv a2 a3 && (qau a4 && decide (isum a2 ≤ 10000000))))))] := by
  rw [qex]
  by_cases h1 : a2.length = a1.length
  case neg => simp (disch := omega) only [qaw, nth0, nth1, nth2, nth3, bit, qde, qdf, qdq, qdv, qdw, qdx, qdy, qdz, qd0, qd1, qdg, qdh, qdi, qdj, qdk, qdl, qdm, qdn, qdo, qdp, qdr, qds, qdt, qdu, qnn, qnm, qno, qko, qlb, qlc, qhh, qax, qm5, nI, qd7, qd5, Bool.not_true, Bool.not_false, Bool.and_true, Bool.true_and, Bool.and_false, Bool.false_and, Bool.or_true, Bool.true_or, Bool.or_false, Bool.false_or, beq_self_eq_true, dTT, dFF, dT, dF, bigI, big0, qkn, qn7, qn8, List.length_set, List.length_replicate, Int.toNat_natCast, qdc, qdd, imax, imin]
  by_cases h2 : a3.length = a1.length
  case neg => simp (disch := omega) only [qaw, nth0, nth1, nth2, nth3, bit, qde, qdf, qdq, qdv, qdw, qdx, qdy, qdz, qd0, qd1, qdg, qdh, qdi, qdj, qdk, qdl, qdm, qdn, qdo, qdp, qdr, qds, qdt, qdu, qnn, qnm, qno, qko, qlb, qlc, qhh, qax, qm5, nI, qd7, qd5, Bool.not_true, Bool.not_false, Bool.and_true, Bool.true_and, Bool.and_false, Bool.false_and, Bool.or_true, Bool.true_or, Bool.or_false, Bool.false_or, beq_self_eq_true, dTT, dFF, dT, dF, bigI, big0, qkn, qn7, qn8, List.length_set, List.length_replicate, Int.toNat_natCast, qdc, qdd, imax, imin]
  by_cases h3 : (a4.length : Int) = a0
  case neg => simp (disch := omega) only [qaw, nth0, nth1, nth2, nth3, bit, qde, qdf, qdq, qdv, qdw, qdx, qdy, qdz, qd0, qd1, qdg, qdh, qdi, qdj, qdk, qdl, qdm, qdn, qdo, qdp, qdr, qds, qdt, qdu, qnn, qnm, qno, qko, qlb, qlc, qhh, qax, qm5, nI, qd7, qd5, Bool.not_true, Bool.not_false, Bool.and_true, Bool.true_and, Bool.and_false, Bool.false_and, Bool.or_true, Bool.true_or, Bool.or_false, Bool.false_or, beq_self_eq_true, dTT, dFF, dT, dF, bigI, big0, qkn, qn7, qn8, List.length_set, List.length_replicate, Int.toNat_natCast, qdc, qdd, imax, imin]
  simp (disch := omega) only [qaw, nth0, nth1, nth2, nth3, bit, qde, qdf, qdq, qdv, qdw, qdx, qdy, qdz, qd0, qd1, qdg, qdh, qdi, qdj, qdk, qdl, qdm, qdn, qdo, qdp, qdr, qds, qdt, qdu, qnn, qnm, qno, qko, qlb, qlc, qhh, qax, qm5, nI, qd7, qd5, Bool.not_true, Bool.not_false, Bool.and_true, Bool.true_and, Bool.and_false, Bool.false_and, Bool.or_true, Bool.true_or, Bool.or_false, Bool.false_or, beq_self_eq_true, dTT, dFF, dT, dF, bigI, big0, qkn, qn7, qn8, List.length_set, List.length_replicate, Int.toNat_natCast, qdc, qdd, imax, imin, qaz]
  cases h5 : qau a4
  · cases qjv a2 a3 <;> rfl
  have e := qis k hk [] a0 a1z a2z a3z a4z a1 a2 a3 a4 (by omega) (by omega) [] (fun hm => by
    have hx := (qjx a2 a3 (by omega) hm).1
    exact qbu _ (by omega) _ _ (by omega) (fun x hh => by have := hx x hh; omega)) true (k + 5) 0 (by omega) (by omega) (fun h => h)
  simp only [List.drop_zero] at e
  simp only [Bool.not_true, qd5, Bool.true_and]
  exact e
theorem qbd (k : Nat) (hk : 2000000 ≤ k) (a0 : Int) (a1z : Bool) (a1 : List (Int × Int × Int)) (a2z : Bool) (a2 : List Int) (a3z : Bool) (a3 : List Int) (a4z : Bool) (a4 : List Int) (hl : (a1.length : Int) ≤ 1048576) (hb : (a4.length : Int) ≤ 1048576) : go (k + 8) impl_StateOk [(.agg [(.int .i64 (a0)), (.arr false (a1z) (.r3 (a1))), (.arr false (a2z) (.ints .i64 (a2))), (.arr false (a3z) (.ints .i64 (a3))), (.arr false (a4z) (.ints .i64 (a4)))])] = some [.bool (stOk a0 a1 a2 a3 a4)] := by
  rw [qev]
  simp (disch := omega) only [qaw, nth0, nth1, nth2, nth3, bit, qde, qdf, qdq, qdv, qdw, qdx, qdy, qdz, qd0, qd1, qdg, qdh, qdi, qdj, qdk, qdl, qdm, qdn, qdo, qdp, qdr, qds, qdt, qdu, qnn, qnm, qno, qko, qlb, qlc, qhh, qax, qm5, nI, qd7, qd5, Bool.not_true, Bool.not_false, Bool.and_true, Bool.true_and, Bool.and_false, Bool.false_and, Bool.or_true, Bool.true_or, Bool.or_false, Bool.false_or, beq_self_eq_true, dTT, dFF, dT, dF, bigI, big0, qkn, qn7, qn8, List.length_set, List.length_replicate, Int.toNat_natCast, qdc, qdd, imax, imin, qa7, qbn]
  unfold stOk
  cases qat a0 a1 <;> rfl
end Go.Proofs.Ytcaapedadpnjoaa
end
section
namespace Go.Proofs.Ytcaapedadpnjoaa
open Go.Ev
theorem qec {α : Type} {l l' : List α} {i : Nat} (h : i < l.length) (h' : i < l'.length) (d : α) : l.drop i = l'.drop i ↔ l.getD i d = l'.getD i d ∧ l.drop (i + 1) = l'.drop (i + 1) := by
  rw [qeb h d, qeb h' d]; simp
theorem qii {α : Type} {l l' : List α} (h : ¬ l.length = l'.length) : ¬ l = l' := fun e => h (by rw [e])
theorem qd2 (x y : Cell) : (decide (x.1 = y.1) && (decide (x.2.1 = y.2.1) && decide (x.2.2 = y.2.2))) = decide (x = y) := by
  obtain ⟨a, b, c⟩ := x; obtain ⟨a', b', c'⟩ := y
  rw [Bool.eq_iff_iff]; simp
theorem qjd (k : Nat) (hk : 2000000 ≤ k) (fu : List (Nat × Nat)) (z z' : Bool) (l l' : List Cell) (hl : (l.length : Int) ≤ 1048576) (he : l'.length = l.length) : ∀ (n i : Nat), i ≤ l.length → l.length - i < n →
    lp k slices_Equal_impl_Id_impl_Id [] fu 4 (n) (qma (l.length : Int) (i : Int) z l z' l') = some [.bool (decide (l.drop i = l'.drop i))]
  | 0, i, hi, hn => by omega
  | n + 1, i, hi, hn => by
    rw [qh6]
    by_cases h : i < l.length
    · have e := qjd k hk fu z z' l l' hl he n (i + 1) (by omega) (by omega)
      by_cases g : l.getD i zz3 = l'.getD i zz3
      · simp (disch := omega) only [qaw, nth0, nth1, nth2, nth3, bit, qde, qdf, qdq, qdv, qdw, qdx, qdy, qdz, qd0, qd1, qdg, qdh, qdi, qdj, qdk, qdl, qdm, qdn, qdo, qdp, qdr, qds, qdt, qdu, qnn, qnm, qno, qko, qlb, qlc, qhh, qax, qm5, nI, qd7, qd5, Bool.not_true, Bool.not_false, Bool.and_true, Bool.true_and, Bool.and_false, Bool.false_and, Bool.or_true, Bool.true_or, Bool.or_false, Bool.false_or, beq_self_eq_true, dTT, dFF, dT, dF, bigI, big0, qkn, qn7, qn8, List.length_set, List.length_replicate, Int.toNat_natCast, qdc, qdd, imax, imin, e, g]
        exact congrArg (fun b => some [D.bool b]) (by simp only [qec h (by omega : i < l'.length) zz3, g, true_and])
      · simp (disch := omega) only [qaw, nth0, nth1, nth2, nth3, bit, qde, qdf, qdq, qdv, qdw, qdx, qdy, qdz, qd0, qd1, qdg, qdh, qdi, qdj, qdk, qdl, qdm, qdn, qdo, qdp, qdr, qds, qdt, qdu, qnn, qnm, qno, qko, qlb, qlc, qhh, qax, qm5, nI, qd7, qd5, Bool.not_true, Bool.not_false, Bool.and_true, Bool.true_and, Bool.and_false, Bool.false_and, Bool.or_true, Bool.true_or, Bool.or_false, Bool.false_or, beq_self_eq_true, dTT, dFF, dT, dF, bigI, big0, qkn, qn7, qn8, List.length_set, List.length_replicate, Int.toNat_natCast, qdc, qdd, imax, imin, e, qd2]
        exact congrArg (fun b => some [D.bool b]) (by rw [dF]; rw [qec h (by omega : i < l'.length) zz3]; exact fun hh => g hh.1)
    · simp (disch := omega) only [qaw, nth0, nth1, nth2, nth3, bit, qde, qdf, qdq, qdv, qdw, qdx, qdy, qdz, qd0, qd1, qdg, qdh, qdi, qdj, qdk, qdl, qdm, qdn, qdo, qdp, qdr, qds, qdt, qdu, qnn, qnm, qno, qko, qlb, qlc, qhh, qax, qm5, nI, qd7, qd5, Bool.not_true, Bool.not_false, Bool.and_true, Bool.true_and, Bool.and_false, Bool.false_and, Bool.or_true, Bool.true_or, Bool.or_false, Bool.false_or, beq_self_eq_true, dTT, dFF, dT, dF, bigI, big0, qkn, qn7, qn8, List.length_set, List.length_replicate, Int.toNat_natCast, qdc, qdd, imax, imin]
      rw [List.drop_of_length_le (by omega), List.drop_of_length_le (by omega)]; rfl
theorem qco (k : Nat) (hk : 2000000 ≤ k) (az : Bool) (a : List (Int × Int × Int)) (bz : Bool) (b : List (Int × Int × Int)) (hl : (a.length : Int) ≤ 1048576) : go (k + 1) slices_Equal_impl_Id_impl_Id [(.arr false (az) (.r3 (a))), (.arr false (bz) (.r3 (b)))] = some [.bool (decide (a = b))] := by
  rw [qf3]
  by_cases h : a.length = b.length
  · simp (disch := omega) only [qaw, nth0, nth1, nth2, nth3, bit, qde, qdf, qdq, qdv, qdw, qdx, qdy, qdz, qd0, qd1, qdg, qdh, qdi, qdj, qdk, qdl, qdm, qdn, qdo, qdp, qdr, qds, qdt, qdu, qnn, qnm, qno, qko, qlb, qlc, qhh, qax, qm5, nI, qd7, qd5, Bool.not_true, Bool.not_false, Bool.and_true, Bool.true_and, Bool.and_false, Bool.false_and, Bool.or_true, Bool.true_or, Bool.or_false, Bool.false_or, beq_self_eq_true, dTT, dFF, dT, dF, bigI, big0, qkn, qn7, qn8, List.length_set, List.length_replicate, Int.toNat_natCast, qdc, qdd, imax, imin]
    have e := qjd k hk [] az bz a b hl (by omega) (k + 0) 0 (by omega) (by omega)
    simp only [List.drop_zero] at e; exact e
  · simp (disch := omega) only [qaw, nth0, nth1, nth2, nth3, bit, qde, qdf, qdq, qdv, qdw, qdx, qdy, qdz, qd0, qd1, qdg, qdh, qdi, qdj, qdk, qdl, qdm, qdn, qdo, qdp, qdr, qds, qdt, qdu, qnn, qnm, qno, qko, qlb, qlc, qhh, qax, qm5, nI, qd7, qd5, Bool.not_true, Bool.not_false, Bool.and_true, Bool.true_and, Bool.and_false, Bool.false_and, Bool.or_true, Bool.true_or, Bool.or_false, Bool.false_or, beq_self_eq_true, dTT, dFF, dT, dF, bigI, big0, qkn, qn7, qn8, List.length_set, List.length_replicate, Int.toNat_natCast, qdc, qdd, imax, imin]
    rw [dF (qii h)]
def qmo (r r' : Int) (l l' : List Cell) : Bool := decide (r = r') && decide (l = l')
theorem qba (k : Nat) (hk : 2000000 ≤ k) (a0 : Int) (a1z : Bool) (a1 : List (Int × Int × Int)) (b0 : Int) (b1z : Bool) (b1 : List (Int × Int × Int)) (hl : (a1.length : Int) ≤ 1048576) : go (k + 2) impl_SameMesh [(.agg [(.int .i64 (a0)), (.arr false (a1z) (.r3 (a1)))]), (.agg [(.int .i64 (b0)), (.arr false (b1z) (.r3 (b1)))])] = some [.bool (qmo a0 b0 a1 b1)] := by
  rw [qes]
  simp (disch := omega) only [qaw, nth0, nth1, nth2, nth3, bit, qde, qdf, qdq, qdv, qdw, qdx, qdy, qdz, qd0, qd1, qdg, qdh, qdi, qdj, qdk, qdl, qdm, qdn, qdo, qdp, qdr, qds, qdt, qdu, qnn, qnm, qno, qko, qlb, qlc, qhh, qax, qm5, nI, qd7, qd5, Bool.not_true, Bool.not_false, Bool.and_true, Bool.true_and, Bool.and_false, Bool.false_and, Bool.or_true, Bool.true_or, Bool.or_false, Bool.false_or, beq_self_eq_true, dTT, dFF, dT, dF, bigI, big0, qkn, qn7, qn8, List.length_set, List.length_replicate, Int.toNat_natCast, qdc, qdd, imax, imin, qco]
  unfold qmo
  cases decide (a0 = b0) <;> rfl
theorem qjf (k : Nat) (hk : 2000000 ≤ k) (fu : List (Nat × Nat)) (z z' : Bool) (r r' : Int) (l l' : List Cell) (hl : (l.length : Int) ≤ 1048576) (he : l'.length = l.length) : ∀ (n i : Nat), i ≤ l.length → l.length - i < n →
    lp k spec_SameMesh [] fu 4 (n) (qme (i : Int) z l r z' l' r') = some [.bool (decide (l.drop i = l'.drop i))]
  | 0, i, hi, hn => by omega
  | n + 1, i, hi, hn => by
    rw [qia]
    by_cases h : i < l.length
    · have e := qjf k hk fu z z' r r' l l' hl he n (i + 1) (by omega) (by omega)
      by_cases g : l.getD i zz3 = l'.getD i zz3
      · simp (disch := omega) only [qaw, nth0, nth1, nth2, nth3, bit, qde, qdf, qdq, qdv, qdw, qdx, qdy, qdz, qd0, qd1, qdg, qdh, qdi, qdj, qdk, qdl, qdm, qdn, qdo, qdp, qdr, qds, qdt, qdu, qnn, qnm, qno, qko, qlb, qlc, qhh, qax, qm5, nI, qd7, qd5, Bool.not_true, Bool.not_false, Bool.and_true, Bool.true_and, Bool.and_false, Bool.false_and, Bool.or_true, Bool.true_or, Bool.or_false, Bool.false_or, beq_self_eq_true, dTT, dFF, dT, dF, bigI, big0, qkn, qn7, qn8, List.length_set, List.length_replicate, Int.toNat_natCast, qdc, qdd, imax, imin, e, g]
        exact congrArg (fun b => some [D.bool b]) (by simp only [qec h (by omega : i < l'.length) zz3, g, true_and])
      · simp (disch := omega) only [qaw, nth0, nth1, nth2, nth3, bit, qde, qdf, qdq, qdv, qdw, qdx, qdy, qdz, qd0, qd1, qdg, qdh, qdi, qdj, qdk, qdl, qdm, qdn, qdo, qdp, qdr, qds, qdt, qdu, qnn, qnm, qno, qko, qlb, qlc, qhh, qax, qm5, nI, qd7, qd5, Bool.not_true, Bool.not_false, Bool.and_true, Bool.true_and, Bool.and_false, Bool.false_and, Bool.or_true, Bool.true_or, Bool.or_false, Bool.false_or, beq_self_eq_true, dTT, dFF, dT, dF, bigI, big0, qkn, qn7, qn8, List.length_set, List.length_replicate, Int.toNat_natCast, qdc, qdd, imax, imin, e, qd2]
        exact congrArg (fun b => some [D.bool b]) (by rw [dF]; rw [qec h (by omega : i < l'.length) zz3]; exact fun hh => g hh.1)
    · simp (disch := omega) only [qaw, nth0, nth1, nth2, nth3, bit, qde, qdf, qdq, qdv, qdw, qdx, qdy, qdz, qd0, qd1, qdg, qdh, qdi, qdj, qdk, qdl, qdm, qdn, qdo, qdp, qdr, qds, qdt, qdu, qnn, qnm, qno, qko, qlb, qlc, qhh, qax, qm5, nI, qd7, qd5, Bool.not_true, Bool.not_false, Bool.and_true, Bool.true_and, Bool.and_false, Bool.false_and, Bool.or_true, Bool.true_or, Bool.or_false, Bool.false_or, beq_self_eq_true, dTT, dFF, dT, dF, bigI, big0, qkn, qn7, qn8, List.length_set, List.length_replicate, Int.toNat_natCast, qdc, qdd, imax, imin]
      rw [List.drop_of_length_le (by omega), List.drop_of_length_le (by omega)]; rfl
theorem qcv (k : Nat) (hk : 2000000 ≤ k) (a0 : Int) (a1z : Bool) (a1 : List (Int × Int × Int)) (b0 : Int) (b1z : Bool) (b1 : List (Int × Int × Int)) (hl : (a1.length : Int) ≤ 1048576) : go (k + 1) spec_SameMesh [(.agg [(.int .i64 (a0)), (.arr false (a1z) (.r3 (a1)))]), (.agg [(.int .i64 (b0)), (.arr false (b1z) (.r3 (b1)))])] = some [.bool (qmo a0 b0 a1 b1)] := by
  rw [qgc]
  unfold qmo
  by_cases h0 : a0 = b0
  case neg => simp (disch := omega) only [qaw, nth0, nth1, nth2, nth3, bit, qde, qdf, qdq, qdv, qdw, qdx, qdy, qdz, qd0, qd1, qdg, qdh, qdi, qdj, qdk, qdl, qdm, qdn, qdo, qdp, qdr, qds, qdt, qdu, qnn, qnm, qno, qko, qlb, qlc, qhh, qax, qm5, nI, qd7, qd5, Bool.not_true, Bool.not_false, Bool.and_true, Bool.true_and, Bool.and_false, Bool.false_and, Bool.or_true, Bool.true_or, Bool.or_false, Bool.false_or, beq_self_eq_true, dTT, dFF, dT, dF, bigI, big0, qkn, qn7, qn8, List.length_set, List.length_replicate, Int.toNat_natCast, qdc, qdd, imax, imin]
  by_cases h : a1.length = b1.length
  · simp (disch := omega) only [qaw, nth0, nth1, nth2, nth3, bit, qde, qdf, qdq, qdv, qdw, qdx, qdy, qdz, qd0, qd1, qdg, qdh, qdi, qdj, qdk, qdl, qdm, qdn, qdo, qdp, qdr, qds, qdt, qdu, qnn, qnm, qno, qko, qlb, qlc, qhh, qax, qm5, nI, qd7, qd5, Bool.not_true, Bool.not_false, Bool.and_true, Bool.true_and, Bool.and_false, Bool.false_and, Bool.or_true, Bool.true_or, Bool.or_false, Bool.false_or, beq_self_eq_true, dTT, dFF, dT, dF, bigI, big0, qkn, qn7, qn8, List.length_set, List.length_replicate, Int.toNat_natCast, qdc, qdd, imax, imin]
    have e := qjf k hk [] a1z b1z a0 b0 a1 b1 hl (by omega) (k + 0) 0 (by omega) (by omega)
    simp only [List.drop_zero] at e; exact e
  · simp (disch := omega) only [qaw, nth0, nth1, nth2, nth3, bit, qde, qdf, qdq, qdv, qdw, qdx, qdy, qdz, qd0, qd1, qdg, qdh, qdi, qdj, qdk, qdl, qdm, qdn, qdo, qdp, qdr, qds, qdt, qdu, qnn, qnm, qno, qko, qlb, qlc, qhh, qax, qm5, nI, qd7, qd5, Bool.not_true, Bool.not_false, Bool.and_true, Bool.true_and, Bool.and_false, Bool.false_and, Bool.or_true, Bool.true_or, Bool.or_false, Bool.false_or, beq_self_eq_true, dTT, dFF, dT, dF, bigI, big0, qkn, qn7, qn8, List.length_set, List.length_replicate, Int.toNat_natCast, qdc, qdd, imax, imin]
    rw [dF (qii h)]
end Go.Proofs.Ytcaapedadpnjoaa
end
section
namespace Go.Proofs.Ytcaapedadpnjoaa
open Go.Ev
theorem qgq (k : Nat) (a0 : Int) (a1z : Bool) (a1 : List (Int × Int × Int)) (a2z : Bool) (a2 : List Int) (a3z : Bool) (a3 : List Int) (a4z : Bool) (a4 : List Int) (b : Int) : go (k + 1) spec_l09Surface [(.agg [(.int .i64 (a0)), (.arr false (a1z) (.r3 (a1))), (.arr false (a2z) (.ints .i64 (a2))), (.arr false (a3z) (.ints .i64 (a3))), (.arr false (a4z) (.ints .i64 (a4)))]), (.int .i64 (b))] =
 cond (decide ((0 : Int) ≤ b) && decide (b < nI (List.length a1)))
 (cond (decide ((0 : Int) ≤ Prod.fst (List.getD a1 (Int.toNat b) zz3)) && decide (Prod.fst (List.getD a1 (Int.toNat b) zz3) < nI (List.length a4)))
 (cond (decide ((0 : Int) ≤ b) && decide (b < nI (List.length a2)))
 (cond (decide ((0 : Int) ≤ IntKind.wrap IntKind.u64 (Prod.fst (Prod.snd (List.getD a1 (Int.toNat b) zz3)))))
 (some [(.int .i64 (IntKind.wrap .i64 (List.getD a4 (Int.toNat (Prod.fst (List.getD a1 (Int.toNat b) zz3))) (0 : Int) + IntKind.wrap .i64 (List.getD a2 (Int.toNat b) (0 : Int) * (2 : Int) ^ shiftN .i64 (IntKind.wrap IntKind.u64 (Prod.fst (Prod.snd (List.getD a1 (Int.toNat b) zz3))))))))])
 (none))
 (none))
 (none))
 (none) := by kernel_rfl
theorem qe2 (k : Nat) (a0 : Int) (a1z : Bool) (a1 : List (Int × Int × Int)) (a2z : Bool) (a2 : List Int) (a3z : Bool) (a3 : List Int) (a4z : Bool) (a4 : List Int) (b : Int) : go (k + 1) impl_State_surface [(.agg [(.int .i64 (a0)), (.arr false (a1z) (.r3 (a1))), (.arr false (a2z) (.ints .i64 (a2))), (.arr false (a3z) (.ints .i64 (a3))), (.arr false (a4z) (.ints .i64 (a4)))]), (.int .i64 (b))] =
 cond (decide ((0 : Int) ≤ b) && decide (b < nI (List.length a1)))
 (cond (decide ((0 : Int) ≤ Prod.fst (List.getD a1 (Int.toNat b) zz3)) && decide (Prod.fst (List.getD a1 (Int.toNat b) zz3) < nI (List.length a4)))
 (cond (decide ((0 : Int) ≤ b) && decide (b < nI (List.length a2)))
 (cond (decide ((0 : Int) ≤ Prod.fst (Prod.snd (List.getD a1 (Int.toNat b) zz3))))
 (some [(.int .i64 (IntKind.wrap .i64 (List.getD a4 (Int.toNat (Prod.fst (List.getD a1 (Int.toNat b) zz3))) (0 : Int) + IntKind.wrap .i64 (List.getD a2 (Int.toNat b) (0 : Int) * (2 : Int) ^ shiftN .i64 (Prod.fst (Prod.snd (List.getD a1 (Int.toNat b) zz3)))))))])
 (none))
 (none))
 (none))
 (none) := by kernel_rfl
end Go.Proofs.Ytcaapedadpnjoaa
end
section
namespace Go.Proofs.Ytcaapedadpnjoaa
open Go.Ev
theorem qn1 {l : Int} (h : inR l 0 4 = true) : 1 ≤ qn0 l ∧ qn0 l ≤ 16 := by
  rcases lev h with rfl | rfl | rfl | rfl | rfl <;> decide
theorem qnz {x : Cell} (h : idOk x.1 x.2.1 x.2.2 = true) : qm1 x.1 x.2.1 x.2.2 = x.1 * 16 + x.2.2 * qn0 x.2.1 ∧ 0 ≤ x.2.2 * qn0 x.2.1 ∧ 1 ≤ qn0 x.2.1 := by
  have := qhe h
  exact ⟨by simp [qm1, h], (iw h).1, (qn1 this.2.2.1).1⟩
theorem qj1 : ∀ (l : List Cell) (r p : Int), qjz r p l = true → 1 ≤ r ∧ r ≤ 8 ∧ p + l.length ≤ 16 * r ∧ (∀ i, i < l.length → 0 ≤ (l.getD i zz3).1 ∧ (l.getD i zz3).1 < r ∧ idOk (l.getD i zz3).1 (l.getD i zz3).2.1 (l.getD i zz3).2.2 = true) ∧ (l = [] → p = 16 * r)
  | [], r, p, h => by
    simp only [qjz, Bool.and_eq_true, qhf, decide_eq_true_eq] at h
    simp; omega
  | x :: l, r, p, h => by
    simp only [qjz, Bool.and_eq_true, decide_eq_true_eq] at h
    obtain ⟨h1, h2, h3⟩ := h
    have w := qnz h1
    have ih := qj1 l r _ h3
    have ds := qhe h1
    refine ⟨ih.1, ih.2.1, by simp only [List.length_cons]; omega, fun i hi => ?_, by simp⟩
    cases i with
    | zero => simp only [List.getD_cons_zero]; refine ⟨by omega, by omega, h1⟩
    | succ i => simp only [List.getD_cons_succ]; exact ih.2.2.2.1 i (by simpa using hi)
theorem qj2 {l : List Cell} {r : Int} (h : qjz r 0 l = true) : 1 ≤ l.length ∧ l.length ≤ 128 := by
  have f := qj1 l r 0 h
  cases l with
  | nil => have := f.2.2.2.2 rfl; omega
  | cons x l => simp only [List.length_cons] at f ⊢; omega
structure StF (r : Int) (l : List Cell) (m t b : List Int) : Prop where
  mesh : qjz r 0 l = true
  bal : unb l < 0
  ml : m.length = l.length
  tl : t.length = l.length
  bl : (b.length : Int) = r
  mt : qjv m t = true
  bed : qau b = true
  sum : isum m ≤ 10000000
theorem stF {r : Int} {l : List Cell} {m t b : List Int} : stOk r l m t b = true ↔ StF r l m t b := by
  unfold stOk qat
  simp only [Bool.and_eq_true, decide_eq_true_eq]
  exact ⟨fun h => ⟨h.1.1, h.1.2, h.2.1, h.2.2.1, h.2.2.2.1, h.2.2.2.2.1, h.2.2.2.2.2.1, h.2.2.2.2.2.2⟩, fun h => ⟨⟨h.mesh, h.bal⟩, h.ml, h.tl, h.bl, h.mt, h.bed, h.sum⟩⟩
theorem shp {l : Int} (h : inR l 0 4 = true) : (2 : Int) ^ shiftN .i64 l = pow2 l := by
  rcases lev h with rfl | rfl | rfl | rfl | rfl <;> simp [sh0, sh1, sh2, sh3, sh4, p20, p21, p22, p23, p24]
theorem mulp {m l : Int} (h : inR l 0 4 = true) (h0 : 0 ≤ m) : m ≤ m * pow2 l ∧ m * pow2 l ≤ 16 * m := by
  rcases lev h with rfl | rfl | rfl | rfl | rfl <;> simp only [p20, p21, p22, p23, p24] <;> omega
section
variable {r : Int} {l : List Cell} {m t b : List Int}
theorem StF.len (F : StF r l m t b) : 1 ≤ l.length ∧ l.length ≤ 128 := qj2 F.mesh
theorem StF.rr (F : StF r l m t b) : 1 ≤ r ∧ r ≤ 8 := ⟨(qj1 l r 0 F.mesh).1, (qj1 l r 0 F.mesh).2.1⟩
theorem StF.lev (F : StF r l m t b) (i : Nat) : inR (l.getD i zz3).2.1 0 4 = true := by
  have := qj3 l r 0 F.mesh i
  simp only [qij] at this
  rw [qhf]; exact this
theorem StF.root (F : StF r l m t b) {i : Nat} (h : i < l.length) : 0 ≤ (l.getD i zz3).1 ∧ (l.getD i zz3).1 < r := ⟨((qj1 l r 0 F.mesh).2.2.2.1 i h).1, ((qj1 l r 0 F.mesh).2.2.2.1 i h).2.1⟩
theorem StF.at (F : StF r l m t b) (i : Nat) : 0 ≤ m.getD i 0 ∧ m.getD i 0 ≤ 10000000 ∧ 0 ≤ t.getD i 0 ∧ t.getD i 0 ≤ 1000 * m.getD i 0 := qjw m t (by rw [F.ml, F.tl]) F.mt i
theorem StF.bedAt (F : StF r l m t b) (i : Nat) : 0 ≤ b.getD i 0 ∧ b.getD i 0 ≤ 1000000 := by
  by_cases h : i < b.length
  · exact qav b F.bed _ (qg7 h 0)
  · rw [qg6 (by omega)]; omega
end
def surf (l : List Cell) (m b : List Int) (i : Nat) : Int := b.getD (l.getD i zz3).1.toNat 0 + m.getD i 0 * pow2 (l.getD i zz3).2.1
theorem qm6 {r : Int} {l : List Cell} {m t b : List Int} (F : StF r l m t b) (i : Nat) : 0 ≤ surf l m b i ∧ surf l m b i ≤ 161000000 := by
  have h1 := F.bedAt (l.getD i zz3).1.toNat
  have h2 := F.at i
  have h3 := mulp (F.lev i) h2.1
  unfold surf; omega
theorem qc9 (k : Nat) (hk : 2000000 ≤ k) (r : Int) (z1 z2 z3 z4 : Bool) (l : List Cell) (m t b : List Int) (F : StF r l m t b) (i : Nat) (hi : i < l.length) :
    go (k + 1) spec_l09Surface [.agg [.int .i64 r, .arr false z1 (.r3 l), .arr false z2 (.ints .i64 m), .arr false z3 (.ints .i64 t), .arr false z4 (.ints .i64 b)], .int .i64 (i : Int)] = some [.int .i64 (surf l m b i)] := by
  rw [qgq]
  have h1 := F.root hi; have h2 := F.ml; have h3 := F.bl; have h4 := F.lev i; have h5 := lev0 h4; have h6 := F.at i; have h7 := qm6 F i; have h8 := mulp h4 h6.1; have h9 := F.len
  unfold surf at h7 ⊢
  simp (disch := omega) only [qaw, nth0, nth1, nth2, nth3, bit, qde, qdf, qdq, qdv, qdw, qdx, qdy, qdz, qd0, qd1, qdg, qdh, qdi, qdj, qdk, qdl, qdm, qdn, qdo, qdp, qdr, qds, qdt, qdu, qnn, qnm, qno, qko, qlb, qlc, qhh, qax, qm5, nI, qd7, qd5, Bool.not_true, Bool.not_false, Bool.and_true, Bool.true_and, Bool.and_false, Bool.false_and, Bool.or_true, Bool.true_or, Bool.or_false, Bool.false_or, beq_self_eq_true, dTT, dFF, dT, dF, bigI, big0, qkn, qn7, qn8, List.length_set, List.length_replicate, Int.toNat_natCast, qdc, qdd, imax, imin, shp h4]
theorem qbv (k : Nat) (hk : 2000000 ≤ k) (r : Int) (z1 z2 z3 z4 : Bool) (l : List Cell) (m t b : List Int) (F : StF r l m t b) (i : Nat) (hi : i < l.length) :
    go (k + 1) impl_State_surface [.agg [.int .i64 r, .arr false z1 (.r3 l), .arr false z2 (.ints .i64 m), .arr false z3 (.ints .i64 t), .arr false z4 (.ints .i64 b)], .int .i64 (i : Int)] = some [.int .i64 (surf l m b i)] := by
  rw [qe2]
  have h1 := F.root hi; have h2 := F.ml; have h3 := F.bl; have h4 := F.lev i; have h5 := lev0 h4; have h6 := F.at i; have h7 := qm6 F i; have h8 := mulp h4 h6.1; have h9 := F.len
  unfold surf at h7 ⊢
  simp (disch := omega) only [qaw, nth0, nth1, nth2, nth3, bit, qde, qdf, qdq, qdv, qdw, qdx, qdy, qdz, qd0, qd1, qdg, qdh, qdi, qdj, qdk, qdl, qdm, qdn, qdo, qdp, qdr, qds, qdt, qdu, qnn, qnm, qno, qko, qlb, qlc, qhh, qax, qm5, nI, qd7, qd5, Bool.not_true, Bool.not_false, Bool.and_true, Bool.true_and, Bool.and_false, Bool.false_and, Bool.or_true, Bool.true_or, Bool.or_false, Bool.false_or, beq_self_eq_true, dTT, dFF, dT, dF, bigI, big0, qkn, qn7, qn8, List.length_set, List.length_replicate, Int.toNat_natCast, qdc, qdd, imax, imin, shp h4]
end Go.Proofs.Ytcaapedadpnjoaa
end
section
namespace Go.Proofs.Ytcaapedadpnjoaa
open Go.Ev
theorem qc1 (k : Nat) (hk : 2000000 ≤ k) (a0 : Int) (a1z : Bool) (a1 : List (Int × Int × Int)) (h1 : (a1.length : Int) ≤ 1048576) : go (k + 1) spec_l04Copy [(.agg [(.int .i64 (a0)), (.arr false (a1z) (.r3 (a1)))])] = some [.agg [.int .i64 a0, .arr true false (.r3 a1)]] := by
  rw [qgi]
  simp (disch := omega) only [qaw, nth0, nth1, nth2, nth3, bit, qde, qdf, qdq, qdv, qdw, qdx, qdy, qdz, qd0, qd1, qdg, qdh, qdi, qdj, qdk, qdl, qdm, qdn, qdo, qdp, qdr, qds, qdt, qdu, qnn, qnm, qno, qko, qlb, qlc, qhh, qax, qm5, nI, qd7, qd5, Bool.not_true, Bool.not_false, Bool.and_true, Bool.true_and, Bool.and_false, Bool.false_and, Bool.or_true, Bool.true_or, Bool.or_false, Bool.false_or, beq_self_eq_true, dTT, dFF, dT, dF, bigI, big0, qkn, qn7, qn8, List.length_set, List.length_replicate, Int.toNat_natCast, qdc, qdd, imax, imin]
theorem qc5 (k : Nat) (hk : 2000000 ≤ k) (a0 : Int) (a1z : Bool) (a1 : List (Int × Int × Int)) (a2z : Bool) (a2 : List Int) (a3z : Bool) (a3 : List Int) (a4z : Bool) (a4 : List Int) (h1 : (a1.length : Int) ≤ 1048576) (h2 : (a2.length : Int) ≤ 1048576) (h3 : (a3.length : Int) ≤ 1048576) (h4 : (a4.length : Int) ≤ 1048576) : go (k + 2) spec_l07Copy [(.agg [(.int .i64 (a0)), (.arr false (a1z) (.r3 (a1))), (.arr false (a2z) (.ints .i64 (a2))), (.arr false (a3z) (.ints .i64 (a3))), (.arr false (a4z) (.ints .i64 (a4)))])] = some [.agg [.int .i64 a0, .arr true false (.r3 a1), .arr true false (.ints .i64 a2), .arr true false (.ints .i64 a3), .arr true false (.ints .i64 a4)]] := by
  rw [qgm]
  simp (disch := omega) only [qaw, nth0, nth1, nth2, nth3, bit, qde, qdf, qdq, qdv, qdw, qdx, qdy, qdz, qd0, qd1, qdg, qdh, qdi, qdj, qdk, qdl, qdm, qdn, qdo, qdp, qdr, qds, qdt, qdu, qnn, qnm, qno, qko, qlb, qlc, qhh, qax, qm5, nI, qd7, qd5, Bool.not_true, Bool.not_false, Bool.and_true, Bool.true_and, Bool.and_false, Bool.false_and, Bool.or_true, Bool.true_or, Bool.or_false, Bool.false_or, beq_self_eq_true, dTT, dFF, dT, dF, bigI, big0, qkn, qn7, qn8, List.length_set, List.length_replicate, Int.toNat_natCast, qdc, qdd, imax, imin, qc1]
theorem qcn (k : Nat) (hk : 2000000 ≤ k) (a : List Int) (hl : (a.length : Int) ≤ 1048576) : go (k + 1) slices_Clone_int_int [.arr false false (.ints .i64 a)] = some [.arr true false (.ints .i64 a)] := by
  rw [qf0]
  simp (disch := omega) only [qaw, nth0, nth1, nth2, nth3, bit, qde, qdf, qdq, qdv, qdw, qdx, qdy, qdz, qd0, qd1, qdg, qdh, qdi, qdj, qdk, qdl, qdm, qdn, qdo, qdp, qdr, qds, qdt, qdu, qnn, qnm, qno, qko, qlb, qlc, qhh, qax, qm5, nI, qd7, qd5, Bool.not_true, Bool.not_false, Bool.and_true, Bool.true_and, Bool.and_false, Bool.false_and, Bool.or_true, Bool.true_or, Bool.or_false, Bool.false_or, beq_self_eq_true, dTT, dFF, dT, dF, bigI, big0, qkn, qn7, qn8, List.length_set, List.length_replicate, Int.toNat_natCast, qdc, qdd, imax, imin]
theorem qcm (k : Nat) (hk : 2000000 ≤ k) (a : List Cell) (hl : (a.length : Int) ≤ 1048576) : go (k + 1) slices_Clone_impl_Id_impl_Id [.arr false false (.r3 a)] = some [.arr true false (.r3 a)] := by
  rw [qfz]
  simp (disch := omega) only [qaw, nth0, nth1, nth2, nth3, bit, qde, qdf, qdq, qdv, qdw, qdx, qdy, qdz, qd0, qd1, qdg, qdh, qdi, qdj, qdk, qdl, qdm, qdn, qdo, qdp, qdr, qds, qdt, qdu, qnn, qnm, qno, qko, qlb, qlc, qhh, qax, qm5, nI, qd7, qd5, Bool.not_true, Bool.not_false, Bool.and_true, Bool.true_and, Bool.and_false, Bool.false_and, Bool.or_true, Bool.true_or, Bool.or_false, Bool.false_or, beq_self_eq_true, dTT, dFF, dT, dF, bigI, big0, qkn, qn7, qn8, List.length_set, List.length_replicate, Int.toNat_natCast, qdc, qdd, imax, imin]
theorem qbi (k : Nat) (hk : 2000000 ≤ k) (a0 : Int) (a1 : List Cell) (h1 : (a1.length : Int) ≤ 1048576) : go (k + 2) impl_copyMesh [.agg [.int .i64 a0, .arr false false (.r3 a1)]] = some [.agg [.int .i64 a0, .arr true false (.r3 a1)]] := by
  rw [qe6]
  simp (disch := omega) only [qaw, nth0, nth1, nth2, nth3, bit, qde, qdf, qdq, qdv, qdw, qdx, qdy, qdz, qd0, qd1, qdg, qdh, qdi, qdj, qdk, qdl, qdm, qdn, qdo, qdp, qdr, qds, qdt, qdu, qnn, qnm, qno, qko, qlb, qlc, qhh, qax, qm5, nI, qd7, qd5, Bool.not_true, Bool.not_false, Bool.and_true, Bool.true_and, Bool.and_false, Bool.false_and, Bool.or_true, Bool.true_or, Bool.or_false, Bool.false_or, beq_self_eq_true, dTT, dFF, dT, dF, bigI, big0, qkn, qn7, qn8, List.length_set, List.length_replicate, Int.toNat_natCast, qdc, qdd, imax, imin, qcm]
theorem qbj (k : Nat) (hk : 2000000 ≤ k) (a0 : Int) (a1 : List Cell) (a2 a3 a4 : List Int) (h1 : (a1.length : Int) ≤ 1048576) (h2 : (a2.length : Int) ≤ 1048576) (h3 : (a3.length : Int) ≤ 1048576) (h4 : (a4.length : Int) ≤ 1048576) :
    go (k + 3) impl_copyState [.agg [.int .i64 a0, .arr false false (.r3 a1), .arr false false (.ints .i64 a2), .arr false false (.ints .i64 a3), .arr false false (.ints .i64 a4)]] = some [.agg [.int .i64 a0, .arr true false (.r3 a1), .arr true false (.ints .i64 a2), .arr true false (.ints .i64 a3), .arr true false (.ints .i64 a4)]] := by
  rw [qe7]
  simp (disch := omega) only [qaw, nth0, nth1, nth2, nth3, bit, qde, qdf, qdq, qdv, qdw, qdx, qdy, qdz, qd0, qd1, qdg, qdh, qdi, qdj, qdk, qdl, qdm, qdn, qdo, qdp, qdr, qds, qdt, qdu, qnn, qnm, qno, qko, qlb, qlc, qhh, qax, qm5, nI, qd7, qd5, Bool.not_true, Bool.not_false, Bool.and_true, Bool.true_and, Bool.and_false, Bool.false_and, Bool.or_true, Bool.true_or, Bool.or_false, Bool.false_or, beq_self_eq_true, dTT, dFF, dT, dF, bigI, big0, qkn, qn7, qn8, List.length_set, List.length_replicate, Int.toNat_natCast, qdc, qdd, imax, imin, qbi, qcn]
end Go.Proofs.Ytcaapedadpnjoaa
end
