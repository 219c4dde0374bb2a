/- What the program's functions compute, and plain facts of it (part 1). No condition beyond those that each theorem states. -/
import Derived.Test.YtjfjniebmdafeaaGreatDoorXA
import Derived.Shelf.Strings.Builder1
import Derived.Shelf.LaysM
import Derived.Shelf.Strconv.Itoa3
import Derived.Test.YtjfjniebmdafeaaGreatDoorProg
import Derived.Test.YtjfjniebmdafeaaGreatDoorSB
import Derived.WalkKit
import Derived.BigCall
import Derived.KernelRfl
import Derived.ProofKit
import Derived.Shelf.Strings.BuilderF
import Derived.Shelf.Strings.BuilderK
import Derived.Deep.QuietTactic
import Derived.BigQuiet
set_option linter.unusedVariables false
set_option linter.unusedSimpArgs false
section
namespace Go.Proofs.YtjfjniebmdafeaaGreatDoor
open Go.Ev
set_option maxRecDepth 20000
def qos (x0 x1 : ByteArray) (x2 : Int) (z3 : Bool) (l4 : List (Int × Int × Int)) (z5 : Bool) (l6 : List Int) (z7 : Bool) (l8 : List Int) (z9 : Bool) (l10 : List Int) (x11 x12 x13 x14 x15 x16 x17 x18 x19 x20 x21 x22 x23 x24 x25 x26 x27 : Int) (z28 : Bool) (l29 : List ByteArray) : St := ⟨fill 80 [(3, (.ptr 4 (0) (0))), (4, (.sl 5 none)), (5, (.str (x0))), (6, (.str (x1))), (7, (.int .i64 (x2)))], [], [(.arr true (z3) (.r3 (l4))), (.arr true (z5) (.ints .i64 (l6))), (.arr true (z7) (.ints .i64 (l8))), (.arr true (z9) (.ints .i64 (l10))), (.box true [(.int .i64 (x11)), (.sl 0 none), (.sl 1 none), (.sl 2 none), (.sl 3 none), (.int .i64 (x12)), (.int .i64 (x13)), (.int .i64 (x14)), (.int .i64 (x15)), (.int .i64 (x16)), (.int .i64 (x17)), (.int .i64 (x18)), (.int .i64 (x19)), (.int .i64 (x20)), (.int .i64 (x21)), (.int .i64 (x22)), (.int .i64 (x23)), (.int .i64 (x24)), (.int .i64 (x25)), (.int .i64 (x26)), (.int .i64 (x27))]), (.arr true (z28) (.strs (l29)))]⟩
theorem qgp (k : Nat) (az : Bool) (a : List Int) : go (k + 1) laws_FnReports [(.arr false (az) (.ints IntKind.u8 (a)))] =
 (go k laws_big [(.arr false (az) (.ints IntKind.u8 (a)))]).bind fun r0 =>
 cond (bit (nth r0 0))
 (some [(.bool (true))])
 ((go k spec_DrawWorld [(.arr false (az) (.ints IntKind.u8 (a)))]).bind fun r1 =>
 (go k impl_FormatWorld [(.agg [(.int .i64 (D.toInt (D.cell 0 (nth r1 0)))), (.arr false (D.nil (D.cell 1 (nth r1 0))) (.r3 (D.r3 (D.cell 1 (nth r1 0))))), (.arr false (D.nil (D.cell 2 (nth r1 0))) (.ints .i64 (D.ints (D.cell 2 (nth r1 0))))), (.arr false (D.nil (D.cell 3 (nth r1 0))) (.ints .i64 (D.ints (D.cell 3 (nth r1 0))))), (.arr false (D.nil (D.cell 4 (nth r1 0))) (.ints .i64 (D.ints (D.cell 4 (nth r1 0))))), (.int .i64 (D.toInt (D.cell 5 (nth r1 0)))), (.int .i64 (D.toInt (D.cell 6 (nth r1 0)))), (.int .i64 (D.toInt (D.cell 7 (nth r1 0)))), (.int .i64 (D.toInt (D.cell 8 (nth r1 0)))), (.int .i64 (D.toInt (D.cell 9 (nth r1 0)))), (.int .i64 (D.toInt (D.cell 10 (nth r1 0)))), (.int .i64 (D.toInt (D.cell 11 (nth r1 0)))), (.int .i64 (D.toInt (D.cell (12 : Nat) (nth r1 0)))), (.int .i64 (D.toInt (D.cell (13 : Nat) (nth r1 0)))), (.int .i64 (D.toInt (D.cell (14 : Nat) (nth r1 0)))), (.int .i64 (D.toInt (D.cell (15 : Nat) (nth r1 0)))), (.int .i64 (D.toInt (D.cell (16 : Nat) (nth r1 0)))), (.int .i64 (D.toInt (D.cell (17 : Nat) (nth r1 0)))), (.int .i64 (D.toInt (D.cell (18 : Nat) (nth r1 0)))), (.int .i64 (D.toInt (D.cell (19 : Nat) (nth r1 0)))), (.int .i64 (D.toInt (D.cell (20 : Nat) (nth r1 0))))])]).bind fun r2 =>
 (go k impl_FormatBars [(.agg [(.int .i64 (D.toInt (D.cell 0 (nth r1 0)))), (.arr false (D.nil (D.cell 1 (nth r1 0))) (.r3 (D.r3 (D.cell 1 (nth r1 0))))), (.arr false (D.nil (D.cell 2 (nth r1 0))) (.ints .i64 (D.ints (D.cell 2 (nth r1 0))))), (.arr false (D.nil (D.cell 3 (nth r1 0))) (.ints .i64 (D.ints (D.cell 3 (nth r1 0))))), (.arr false (D.nil (D.cell 4 (nth r1 0))) (.ints .i64 (D.ints (D.cell 4 (nth r1 0)))))]), (.int .i64 (0 : Int))]).bind fun r3 =>
 (go k impl_FormatBars [(.agg [(.int .i64 (D.toInt (D.cell 0 (nth r1 0)))), (.arr false (D.nil (D.cell 1 (nth r1 0))) (.r3 (D.r3 (D.cell 1 (nth r1 0))))), (.arr false (D.nil (D.cell 2 (nth r1 0))) (.ints .i64 (D.ints (D.cell 2 (nth r1 0))))), (.arr false (D.nil (D.cell 3 (nth r1 0))) (.ints .i64 (D.ints (D.cell 3 (nth r1 0))))), (.arr false (D.nil (D.cell 4 (nth r1 0))) (.ints .i64 (D.ints (D.cell 4 (nth r1 0)))))]), (.int .i64 ((1000000000 : Int)))]).bind fun r4 =>
 cond (!decide (nI (ByteArray.size (D.toStr (nth r3 0))) = IntKind.wrap .i64 ((16 : Int) * D.toInt (D.cell 0 (nth r1 0)))))
 (some [(.bool (false))])
 (cond (!decide (nI (ByteArray.size (D.toStr (nth r4 0))) = nI (ByteArray.size (D.toStr (nth r3 0)))))
 (some [(.bool (false))])
 (lp k laws_FnReports [] [] 10 k (qos (D.toStr (nth r3 0)) (D.toStr (nth r4 0)) (0 : Int) (D.nil (D.cell 1 (nth r1 0))) (D.r3 (D.cell 1 (nth r1 0))) (D.nil (D.cell 2 (nth r1 0))) (D.ints (D.cell 2 (nth r1 0))) (D.nil (D.cell 3 (nth r1 0))) (D.ints (D.cell 3 (nth r1 0))) (D.nil (D.cell 4 (nth r1 0))) (D.ints (D.cell 4 (nth r1 0))) (D.toInt (D.cell 0 (nth r1 0))) (D.toInt (D.cell 5 (nth r1 0))) (D.toInt (D.cell 6 (nth r1 0))) (D.toInt (D.cell 7 (nth r1 0))) (D.toInt (D.cell 8 (nth r1 0))) (D.toInt (D.cell 9 (nth r1 0))) (D.toInt (D.cell 10 (nth r1 0))) (D.toInt (D.cell 11 (nth r1 0))) (D.toInt (D.cell (12 : Nat) (nth r1 0))) (D.toInt (D.cell (13 : Nat) (nth r1 0))) (D.toInt (D.cell (14 : Nat) (nth r1 0))) (D.toInt (D.cell (15 : Nat) (nth r1 0))) (D.toInt (D.cell (16 : Nat) (nth r1 0))) (D.toInt (D.cell (17 : Nat) (nth r1 0))) (D.toInt (D.cell (18 : Nat) (nth r1 0))) (D.toInt (D.cell (19 : Nat) (nth r1 0))) (D.toInt (D.cell (20 : Nat) (nth r1 0))) (D.nil (nth r2 0)) (D.strs (nth r2 0)))))) := by kernel_rfl
theorem qkb (k n : Nat) (fu : List (Nat × Nat)) (x0 x1 : ByteArray) (x2 : Int) (z3 : Bool) (l4 : List (Int × Int × Int)) (z5 : Bool) (l6 : List Int) (z7 : Bool) (l8 : List Int) (z9 : Bool) (l10 : List Int) (x11 x12 x13 x14 x15 x16 x17 x18 x19 x20 x21 x22 x23 x24 x25 x26 x27 : Int) (z28 : Bool) (l29 : List ByteArray) : lp k laws_FnReports [] fu 10 (n + 1) (qos x0 x1 x2 z3 l4 z5 l6 z7 l8 z9 l10 x11 x12 x13 x14 x15 x16 x17 x18 x19 x20 x21 x22 x23 x24 x25 x26 x27 z28 l29) =
 cond (decide (x2 < nI (ByteArray.size x0)))
 (cond (decide ((0 : Int) ≤ x2) && decide (x2 < nI (ByteArray.size x0)))
 (cond (!decide (strAt x0 (Int.toNat x2) = (35 : Int)))
 (some [(.bool (false))])
 (cond (decide ((0 : Int) ≤ x2) && decide (x2 < nI (ByteArray.size x1)))
 (cond (!decide (strAt x1 (Int.toNat x2) = (46 : Int)))
 (some [(.bool (false))])
 (lp k laws_FnReports [] fu 10 n (qos x0 x1 (IntKind.wrap .i64 (x2 + (1 : Int))) z3 l4 z5 l6 z7 l8 z9 l10 x11 x12 x13 x14 x15 x16 x17 x18 x19 x20 x21 x22 x23 x24 x25 x26 x27 z28 l29)))
 (none)))
 (none))
 (cond (decide (nI (List.length l29) = (7 : Int)))
 (cond (decide ((0 : Int) ≤ (0 : Int)) && decide ((0 : Int) < nI (List.length l29)))
 ((go k spec_FormatInt [(.int .i64 (x21))]).bind fun r0 =>
 cond (decide (ByteArray.size { data := #[(115 : UInt8), (116 : UInt8), (101 : UInt8), (112 : UInt8), (32 : UInt8)] } + ByteArray.size (D.toStr (nth r0 0)) ≤ (4611686018427387904 : Nat)))
 (cond (decide (List.getD l29 (Int.toNat (0 : Int)) ByteArray.empty = { data := #[(115 : UInt8), (116 : UInt8), (101 : UInt8), (112 : UInt8), (32 : UInt8)] } ++ D.toStr (nth r0 0)))
 (cond (decide ((0 : Int) ≤ (2 : Int)) && decide ((2 : Int) < nI (List.length l29)))
 ((go k spec_TotalMass [(.agg [(.int .i64 (x11)), (.arr false (z3) (.r3 (l4))), (.arr false (z5) (.ints .i64 (l6))), (.arr false (z7) (.ints .i64 (l8))), (.arr false (z9) (.ints .i64 (l10)))])]).bind fun r1 =>
 (go k spec_FormatInt [(.int .i64 (D.toInt (nth r1 0)))]).bind fun r2 =>
 cond (decide (ByteArray.size { data := #[(109 : UInt8), (97 : UInt8), (115 : UInt8), (115 : UInt8), (32 : UInt8)] } + ByteArray.size (D.toStr (nth r2 0)) ≤ (4611686018427387904 : Nat)))
 (cond (decide (List.getD l29 (Int.toNat (2 : Int)) ByteArray.empty = { data := #[(109 : UInt8), (97 : UInt8), (115 : UInt8), (115 : UInt8), (32 : UInt8)] } ++ D.toStr (nth r2 0)))
 ((go k impl_FormatLedger [(.agg [(.int .i64 ((1 : Int))), (.int .i64 (0 : Int)), (.int .i64 (0 : Int)), (.int .i64 ((-2 : Int)))])]).bind fun r3 =>
 some [(.bool (decide (D.toStr (nth r3 0) = { data := #[(49 : UInt8), (32 : UInt8), (48 : UInt8), (32 : UInt8), (48 : UInt8), (32 : UInt8), (45 : UInt8), (50 : UInt8)] })))])
 (some [(.bool (false))]))
 (none))
 (none))
 (some [(.bool (false))]))
 (none))
 (none))
 (some [(.bool (false))])) := by kernel_rfl
theorem qfv (k : Nat) (a0 a1 a2 a3 : Int) : go (k + 1) impl_FormatLedger [(.agg [(.int .i64 (a0)), (.int .i64 (a1)), (.int .i64 (a2)), (.int .i64 (a3))])] =
 (go k impl_FormatInt [(.int .i64 (a0))]).bind fun r0 =>
 (go k impl_spaced [(.str (D.toStr (nth r0 0))), (.arr false (false) (.ints .i64 ([a1, a2, a3])))]).bind fun r1 =>
 some [(.str (D.toStr (nth r1 0)))] := by kernel_rfl
theorem qhg (k : Nat) (a0 : Int) (a1z : Bool) (a1 : List (Int × Int × Int)) (a2z : Bool) (a2 : List Int) (a3z : Bool) (a3 : List Int) (a4z : Bool) (a4 : List Int) : go (k + 1) spec_TotalMass [(.agg [(.int .i64 (a0)), (.arr false (a1z) (.r3 (a1))), (.arr false (a2z) (.ints .i64 (a2))), (.arr false (a3z) (.ints .i64 (a3))), (.arr false (a4z) (.ints .i64 (a4)))])] =
 (go k spec_StateOk [(.agg [(.int .i64 (a0)), (.arr false (a1z) (.r3 (a1))), (.arr false (a2z) (.ints .i64 (a2))), (.arr false (a3z) (.ints .i64 (a3))), (.arr false (a4z) (.ints .i64 (a4)))])]).bind fun r0 =>
 cond (!bit (nth r0 0))
 (some [(.int .i64 (0 : Int))])
 ((go k spec_l07Sum [(.arr false (a2z) (.ints .i64 (a2)))]).bind fun r1 =>
 some [(.int .i64 (D.toInt (nth r1 0)))]) := by kernel_rfl
theorem qgq (k : Nat) (az : Bool) (a : List Int) : go (k + 1) laws_big [(.arr false (az) (.ints IntKind.u8 (a)))] =
 some [(.bool (decide ((1048576 : Int) < nI (List.length a))))] := by kernel_rfl

end Go.Proofs.YtjfjniebmdafeaaGreatDoor
end
section
namespace Go.Proofs.YtjfjniebmdafeaaGreatDoor
open Go.Ev
set_option maxRecDepth 20000
def qok (x0 x1 x2 : Int) (z3 : Bool) (l4 : List Int) : St := ⟨fill 55 [(3, (.int .i64 (x0))), (42, (.sl 0 none)), (43, (.int .i64 (x1))), (44, (.int .i64 (x2)))], [], [(.arr false (z3) (.ints .i64 (l4)))]⟩
def qol (x0 x1 x2 : Int) (z3 : Bool) (l4 : List (Int × Int × Int)) (z5 : Bool) (l6 : List Int) (z7 : Bool) (l8 : List Int) (z9 : Bool) (l10 : List Int) (x11 : Int) : St := ⟨fill 55 [(1, (.ptr 4 (0) (0))), (3, (.int .i64 (x0))), (13, (.sl 0 none)), (14, (.int .i64 (x1))), (15, (.int .i64 (x2)))], [], [(.arr false (z3) (.r3 (l4))), (.arr false (z5) (.ints .i64 (l6))), (.arr false (z7) (.ints .i64 (l8))), (.arr false (z9) (.ints .i64 (l10))), (.box true [(.int .i64 (x11)), (.sl 0 none), (.sl 1 none), (.sl 2 none), (.sl 3 none)])]⟩
theorem qfs (k : Nat) (a0 : Int) (a1z : Bool) (a1 : List (Int × Int × Int)) (a2z : Bool) (a2 : List Int) (a3z : Bool) (a3 : List Int) (a4z : Bool) (a4 : List Int) : go (k + 1) impl_DigestOf [(.agg [(.int .i64 (a0)), (.arr false (a1z) (.r3 (a1))), (.arr false (a2z) (.ints .i64 (a2))), (.arr false (a3z) (.ints .i64 (a3))), (.arr false (a4z) (.ints .i64 (a4)))])] =
 (go k impl_StateOk [(.agg [(.int .i64 (a0)), (.arr false (a1z) (.r3 (a1))), (.arr false (a2z) (.ints .i64 (a2))), (.arr false (a3z) (.ints .i64 (a3))), (.arr false (a4z) (.ints .i64 (a4)))])]).bind fun r0 =>
 cond (!bit (nth r0 0))
 (some [(.int .i64 ((-1 : Int)))])
 (lp k impl_DigestOf [] [] 5 k (qol ((1 : Int)) (nI (List.length a1)) (0 : Int) a1z a1 a2z a2 a3z a3 a4z a4 a0)) := by kernel_rfl
theorem qj2 (k n : Nat) (fu : List (Nat × Nat)) (x0 x1 x2 : Int) (z3 : Bool) (l4 : List Int) : lp k impl_DigestOf [] fu 10 (n + 1) (qok x0 x1 x2 z3 l4) =
 cond (decide (x2 < x1))
 (cond (decide ((0 : Int) ≤ x2) && decide (x2 < nI (List.length l4)))
 (lp k impl_DigestOf [] fu 10 n (qok (Int.tmod (IntKind.wrap .i64 (IntKind.wrap .i64 (x0 * (31 : Int)) + List.getD l4 (Int.toNat x2) (0 : Int))) (1000003 : Int)) x1 (IntKind.wrap .i64 (x2 + (1 : Int))) z3 l4))
 (none))
 (some [(.int .i64 (x0))]) := by kernel_rfl
theorem qj3 (k n : Nat) (fu : List (Nat × Nat)) (x0 x1 x2 : Int) (z3 : Bool) (l4 : List (Int × Int × Int)) (z5 : Bool) (l6 : List Int) (z7 : Bool) (l8 : List Int) (z9 : Bool) (l10 : List Int) (x11 : Int) : lp k impl_DigestOf [] fu 5 (n + 1) (qol x0 x1 x2 z3 l4 z5 l6 z7 l8 z9 l10 x11) =
 cond (decide (x2 < x1))
 (cond (decide ((0 : Int) ≤ x2) && decide (x2 < nI (List.length l4)))
 (cond (decide ((0 : Int) ≤ x2) && decide (x2 < nI (List.length l6)))
 (cond (decide ((0 : Int) ≤ x2) && decide (x2 < nI (List.length l8)))
 (lp k impl_DigestOf [] fu 5 n (qol (Int.tmod (IntKind.wrap .i64 (IntKind.wrap .i64 (IntKind.wrap .i64 (IntKind.wrap .i64 (IntKind.wrap .i64 (IntKind.wrap .i64 (x0 * (31 : Int)) + Prod.fst (Prod.snd (List.getD l4 (Int.toNat x2) zz3))) * (31 : Int)) + List.getD l6 (Int.toNat x2) (0 : Int)) * (31 : Int)) + List.getD l8 (Int.toNat x2) (0 : Int))) (1000003 : Int)) x1 (IntKind.wrap .i64 (x2 + (1 : Int))) z3 l4 z5 l6 z7 l8 z9 l10 x11))
 (none))
 (none))
 (none))
 (lp k impl_DigestOf [] fu 10 k (qok x0 (nI (List.length l10)) (0 : Int) z9 l10)) := by kernel_rfl
theorem qfw (k : Nat) (a0 : Int) (a1z : Bool) (a1 : List (Int × Int × Int)) (a2z : Bool) (a2 : List Int) (a3z : Bool) (a3 : List Int) (a4z : Bool) (a4 : List Int) (a5 a6 a7 a8 a9 a10 a11 a12 a13 a14 a15 a16 a17 a18 a19 a20 : Int) : go (k + 1) impl_FormatWorld [(.agg [(.int .i64 (a0)), (.arr false (a1z) (.r3 (a1))), (.arr false (a2z) (.ints .i64 (a2))), (.arr false (a3z) (.ints .i64 (a3))), (.arr false (a4z) (.ints .i64 (a4))), (.int .i64 (a5)), (.int .i64 (a6)), (.int .i64 (a7)), (.int .i64 (a8)), (.int .i64 (a9)), (.int .i64 (a10)), (.int .i64 (a11)), (.int .i64 (a12)), (.int .i64 (a13)), (.int .i64 (a14)), (.int .i64 (a15)), (.int .i64 (a16)), (.int .i64 (a17)), (.int .i64 (a18)), (.int .i64 (a19)), (.int .i64 (a20))])] =
 (go k impl_WorldOk [(.agg [(.int .i64 (a0)), (.arr false (a1z) (.r3 (a1))), (.arr false (a2z) (.ints .i64 (a2))), (.arr false (a3z) (.ints .i64 (a3))), (.arr false (a4z) (.ints .i64 (a4))), (.int .i64 (a5)), (.int .i64 (a6)), (.int .i64 (a7)), (.int .i64 (a8)), (.int .i64 (a9)), (.int .i64 (a10)), (.int .i64 (a11)), (.int .i64 (a12)), (.int .i64 (a13)), (.int .i64 (a14)), (.int .i64 (a15)), (.int .i64 (a16)), (.int .i64 (a17)), (.int .i64 (a18)), (.int .i64 (a19)), (.int .i64 (a20))])]).bind fun r0 =>
 cond (!bit (nth r0 0))
 (some [(.arr true (true) (.strs ([])))])
 ((go k impl_spaced [(.str ({ data := #[(115 : UInt8), (116 : UInt8), (101 : UInt8), (112 : UInt8)] })), (.arr false (false) (.ints .i64 ([a14])))]).bind fun r1 =>
 (go k impl_FormatMesh [(.agg [(.int .i64 (a0)), (.arr false (a1z) (.r3 (a1)))])]).bind fun r2 =>
 cond (decide (ByteArray.size { data := #[(109 : UInt8), (101 : UInt8), (115 : UInt8), (104 : UInt8), (32 : UInt8)] } + ByteArray.size (D.toStr (nth r2 0)) ≤ (4611686018427387904 : Nat)))
 ((go k impl_sum [(.arr false (a2z) (.ints .i64 (a2)))]).bind fun r3 =>
 (go k impl_spaced [(.str ({ data := #[(109 : UInt8), (97 : UInt8), (115 : UInt8), (115 : UInt8)] })), (.arr false (false) (.ints .i64 ([D.toInt (nth r3 0)])))]).bind fun r4 =>
 (go k impl_sum [(.arr false (a3z) (.ints .i64 (a3)))]).bind fun r5 =>
 (go k impl_spaced [(.str ({ data := #[(116 : UInt8), (114 : UInt8), (97 : UInt8), (99 : UInt8), (101 : UInt8), (114 : UInt8)] })), (.arr false (false) (.ints .i64 ([D.toInt (nth r5 0)])))]).bind fun r6 =>
 (go k impl_spaced [(.str ({ data := #[(105 : UInt8), (110 : UInt8)] })), (.arr false (false) (.ints .i64 ([a15])))]).bind fun r7 =>
 (go k impl_spaced [(.str ({ data := #[(111 : UInt8), (117 : UInt8), (116 : UInt8)] })), (.arr false (false) (.ints .i64 ([a16])))]).bind fun r8 =>
 (go k impl_DigestOf [(.agg [(.int .i64 (a0)), (.arr false (a1z) (.r3 (a1))), (.arr false (a2z) (.ints .i64 (a2))), (.arr false (a3z) (.ints .i64 (a3))), (.arr false (a4z) (.ints .i64 (a4)))])]).bind fun r9 =>
 (go k impl_spaced [(.str ({ data := #[(100 : UInt8), (105 : UInt8), (103 : UInt8), (101 : UInt8), (115 : UInt8), (116 : UInt8)] })), (.arr false (false) (.ints .i64 ([D.toInt (nth r9 0)])))]).bind fun r10 =>
 some [(.arr true (false) (.strs ([D.toStr (nth r1 0), { data := #[(109 : UInt8), (101 : UInt8), (115 : UInt8), (104 : UInt8), (32 : UInt8)] } ++ D.toStr (nth r2 0), D.toStr (nth r4 0), D.toStr (nth r6 0), D.toStr (nth r7 0), D.toStr (nth r8 0), D.toStr (nth r10 0)])))])
 (none)) := by kernel_rfl
end Go.Proofs.YtjfjniebmdafeaaGreatDoor
end
section
namespace Go.Proofs.YtjfjniebmdafeaaGreatDoor
open Go.Ev
set_option maxRecDepth 20000
def qox (x0 : Int) (x1 : Bool) (x2 : ByteArray) : St := ⟨fill 30 [(0, (.int .i64 (x0))), (3, (.bool (x1))), (4, (.str (x2)))], [], []⟩
theorem qg0 (k : Nat) (a : Int) : go (k + 1) spec_FormatInt [(.int .i64 (a))] =
 cond (decide (a = (0 : Int)))
 (some [(.str ({ data := #[(48 : UInt8)] }))])
 (lp k spec_FormatInt [] [] 5 k (qox a (decide (a < (0 : Int))) ({ data := #[] }))) := by kernel_rfl
theorem qkg (k n : Nat) (fu : List (Nat × Nat)) (x0 : Int) (x1 : Bool) (x2 : ByteArray) : lp k spec_FormatInt [] fu 5 (n + 1) (qox x0 x1 x2) =
 cond (!decide (x0 = (0 : Int)))
 (cond (decide (Int.tmod x0 (10 : Int) < (0 : Int)))
 ((go k spec_l01Figure [(.int .i64 (IntKind.wrap .i64 ((0 : Int) - Int.tmod x0 (10 : Int))))]).bind fun r0 =>
 cond (decide (ByteArray.size (strL [D.toInt (nth r0 0)]) + ByteArray.size x2 ≤ (4611686018427387904 : Nat)))
 (lp k spec_FormatInt [] fu 5 n (qox (IntKind.wrap .i64 (Int.tdiv x0 (10 : Int))) x1 (strL [D.toInt (nth r0 0)] ++ x2)))
 (none))
 ((go k spec_l01Figure [(.int .i64 (Int.tmod x0 (10 : Int)))]).bind fun r1 =>
 cond (decide (ByteArray.size (strL [D.toInt (nth r1 0)]) + ByteArray.size x2 ≤ (4611686018427387904 : Nat)))
 (lp k spec_FormatInt [] fu 5 n (qox (IntKind.wrap .i64 (Int.tdiv x0 (10 : Int))) x1 (strL [D.toInt (nth r1 0)] ++ x2)))
 (none)))
 (cond (x1)
 (cond (decide (ByteArray.size { data := #[(45 : UInt8)] } + ByteArray.size x2 ≤ (4611686018427387904 : Nat)))
 (some [(.str ({ data := #[(45 : UInt8)] } ++ x2))])
 (none))
 (some [(.str (x2))])) := by kernel_rfl
theorem qhm (k : Nat) (a : Int) : go (k + 1) spec_l01Figure [(.int .i64 (a))] =
 cond (decide (a < (10 : Int)))
 (some [(.int IntKind.u8 (IntKind.wrap IntKind.u8 (IntKind.wrap .i64 ((48 : Int) + a))))])
 (some [(.int IntKind.u8 (IntKind.wrap IntKind.u8 (IntKind.wrap .i64 (IntKind.wrap .i64 ((97 : Int) + a) - (10 : Int)))))]) := by kernel_rfl
theorem qfu (k : Nat) (a : Int) : go (k + 1) impl_FormatInt [(.int .i64 (a))] =
 (go k strconv_Itoa [(.int .i64 (a))]).bind fun r0 =>
 some [(.str (D.toStr (nth r0 0)))] := by kernel_rfl
end Go.Proofs.YtjfjniebmdafeaaGreatDoor
end
section
namespace Go.Proofs
open Go.Shelf
def Tryz.lays166_ren : Go.Shelf.Ren := ⟨fun | 166 => 72 | 240 => 119 | 276 => 159 | n => n, fun | 0 => 0 | 3 => 3 | 4 => 4 | 5 => 5 | 9 => 9 | 20 => 20 | 37 => 22 | 70 => 115 | 72 => 117 | 75 => 119 | 80 => 122 | 164 => 183 | n => n, fun | n => n⟩
theorem Tryz.lays166 : Go.Proofs.Lays.n166 Tryz.prog Tryz.lays166_ren := {
  mixed := by kernel_rfl
  f166 := Tryz.func72.trans (congrArg some (by kernel_rfl))
  f240 := Tryz.func119.trans (congrArg some (by kernel_rfl))
  f276 := Tryz.func159.trans (congrArg some (by kernel_rfl))
  t0 := Tryz.underlying0
  a0 := Tryz.isAgg0
  z0 := Tryz.sizeOf0
  v0 := Tryz.zeroValue0
  t3 := Tryz.underlying3
  a3 := Tryz.isAgg3
  z3 := Tryz.sizeOf3
  v3 := Tryz.zeroValue3
  t4 := Tryz.underlying4
  a4 := Tryz.isAgg4
  z4 := Tryz.sizeOf4
  v4 := Tryz.zeroValue4
  t9 := Tryz.underlying9
  a9 := Tryz.isAgg9
  z9 := Tryz.sizeOf9
  v9 := Tryz.zeroValue9
  t20 := Tryz.underlying20
  a20 := Tryz.isAgg20
  z20 := Tryz.sizeOf20
  v20 := Tryz.zeroValue20
  t37 := Tryz.underlying22
  a37 := Tryz.isAgg22
  z37 := Tryz.sizeOf22
  v37 := Tryz.zeroValue22
  t70 := Tryz.underlying115
  a70 := Tryz.isAgg115
  z70 := Tryz.sizeOf115
  v70 := Tryz.zeroValue115
  t72 := Tryz.underlying117
  a72 := Tryz.isAgg117
  z72 := Tryz.sizeOf117
  v72 := Tryz.zeroValue117
  t75 := Tryz.underlying119
  a75 := Tryz.isAgg119
  z75 := Tryz.sizeOf119
  v75 := Tryz.zeroValue119
  t164 := Tryz.underlying183
  a164 := Tryz.isAgg183
  z164 := Tryz.sizeOf183
  v164 := Tryz.zeroValue183 }
theorem Tryz.Builder_Extra_166 : Builder.Extra Tryz.prog Tryz.lays166_ren := {
  sizeBuilder := by kernel_rfl
  liesBuilder := by kernel_rfl
  t5 := Tryz.underlying5
  a5 := Tryz.isAgg5
  z5 := Tryz.sizeOf5
  v5 := Tryz.zeroValue5
  infoByte := by kernel_rfl
  cellsByte := by kernel_rfl
  sizeByte := by kernel_rfl
  neB5 := by decide }
open Go.RowKit in
theorem Tryz.Builder_WriteString (B b : Nat) (bs : List Value) (s : ByteArray) (w : World) (h : Lib.IsBuilder 117 5 B b bs w) (hlen : bs.length + s.size ≤ 140737488355328) (hBw : B ≤ w.heap.size) :
    Calls Tryz.prog 72 #[.pointer (some ⟨b, 0, none⟩), .string s] w fun e w' => e = .returned (.tuple #[.int .i64 s.size, .nilIface]) ∧ (Lib.BuilderAt 117 5 B b (.pointer (some ⟨b, 0, none⟩)) (bs ++ Lib.strCells s) w' ∧ Below B w w') := Any.Builder_WriteString Tryz.lays166 Tryz.Builder_Extra_166 B b bs s w h hlen hBw
def Tryz.lays169_ren : Go.Shelf.Ren := ⟨fun | 169 => 73 | n => n, fun | 70 => 115 | 9 => 9 | 0 => 0 | 72 => 117 | 37 => 22 | 127 => 158 | 3 => 3 | 5 => 5 | n => n, fun | n => n⟩
theorem Tryz.lays169 : Go.Proofs.Lays.n169 Tryz.prog Tryz.lays169_ren := {
  mixed := by kernel_rfl
  f169 := Tryz.func73.trans (congrArg some (by kernel_rfl))
  t0 := Tryz.underlying0
  a0 := Tryz.isAgg0
  z0 := Tryz.sizeOf0
  v0 := Tryz.zeroValue0
  t3 := Tryz.underlying3
  a3 := Tryz.isAgg3
  z3 := Tryz.sizeOf3
  v3 := Tryz.zeroValue3
  t9 := Tryz.underlying9
  a9 := Tryz.isAgg9
  z9 := Tryz.sizeOf9
  v9 := Tryz.zeroValue9
  t37 := Tryz.underlying22
  a37 := Tryz.isAgg22
  z37 := Tryz.sizeOf22
  v37 := Tryz.zeroValue22
  t70 := Tryz.underlying115
  a70 := Tryz.isAgg115
  z70 := Tryz.sizeOf115
  v70 := Tryz.zeroValue115
  t72 := Tryz.underlying117
  a72 := Tryz.isAgg117
  z72 := Tryz.sizeOf117
  v72 := Tryz.zeroValue117
  t127 := Tryz.underlying158
  a127 := Tryz.isAgg158
  z127 := Tryz.sizeOf158
  v127 := Tryz.zeroValue158 }
theorem Tryz.Builder_Extra_169 : Builder.Extra Tryz.prog Tryz.lays169_ren := {
  sizeBuilder := by kernel_rfl
  liesBuilder := by kernel_rfl
  t5 := Tryz.underlying5
  a5 := Tryz.isAgg5
  z5 := Tryz.sizeOf5
  v5 := Tryz.zeroValue5
  infoByte := by kernel_rfl
  cellsByte := by kernel_rfl
  sizeByte := by kernel_rfl
  neB5 := by decide }
open Go.RowKit in
theorem Tryz.Builder_String_any (B b : Nat) (l : List UInt8) (w : World) (h : Lib.IsBuilder 117 5 B b (Lib.byteCells l) w) (hBw : B ≤ w.heap.size) :
    Calls Tryz.prog 73 #[.pointer (some ⟨b, 0, none⟩)] w fun e w' => e = .returned (.string ⟨l.toArray⟩) ∧ Below B w w' := Any.Builder_String_any Tryz.lays169 Tryz.Builder_Extra_169 B b l w h hBw
def Tryz.laysM171_ren : Go.Shelf.Ren := ⟨fun | 171 => 80 | 243 => 128 | 246 => 162 | 283 => 194 | 284 => 195 | 285 => 196 | 286 => 197 | 129 => 223 | 317 => 222 | 318 => 224 | 319 => 225 | 320 => 226 | 337 => 243 | 338 => 244 | n => n, fun | 3 => 3 | 9 => 9 | 2 => 2 | 4 => 4 | 171 => 213 | 0 => 0 | 53 => 214 | 37 => 22 | 5 => 5 | 173 => 217 | 212 => 244 | 51 => 196 | 20 => 20 | 213 => 245 | 46 => 178 | 232 => 277 | 233 => 278 | n => n, fun | 17 => 3 | 18 => 8 | 19 => 9 | n => n⟩
theorem Tryz.laysM171 : Go.Proofs.LaysM.n171 Tryz.prog Tryz.laysM171_ren := {
  mixed := by kernel_rfl
  f129 := Tryz.func223.trans (congrArg some (by kernel_rfl))
  f171 := Tryz.func80.trans (congrArg some (by kernel_rfl))
  f243 := Tryz.func128.trans (congrArg some (by kernel_rfl))
  f246 := Tryz.func162.trans (congrArg some (by kernel_rfl))
  f283 := Tryz.func194.trans (congrArg some (by kernel_rfl))
  f284 := Tryz.func195.trans (congrArg some (by kernel_rfl))
  f285 := Tryz.func196.trans (congrArg some (by kernel_rfl))
  f286 := Tryz.func197.trans (congrArg some (by kernel_rfl))
  f317 := Tryz.func222.trans (congrArg some (by kernel_rfl))
  f318 := Tryz.func224.trans (congrArg some (by kernel_rfl))
  f319 := Tryz.func225.trans (congrArg some (by kernel_rfl))
  f320 := Tryz.func226.trans (congrArg some (by kernel_rfl))
  f337 := Tryz.func243.trans (congrArg some (by kernel_rfl))
  f338 := Tryz.func244.trans (congrArg some (by kernel_rfl))
  t0 := Tryz.underlying0
  a0 := Tryz.isAgg0
  z0 := Tryz.sizeOf0
  v0 := Tryz.zeroValue0
  t2 := Tryz.underlying2
  a2 := Tryz.isAgg2
  z2 := Tryz.sizeOf2
  v2 := Tryz.zeroValue2
  t3 := Tryz.underlying3
  a3 := Tryz.isAgg3
  z3 := Tryz.sizeOf3
  v3 := Tryz.zeroValue3
  t4 := Tryz.underlying4
  a4 := Tryz.isAgg4
  z4 := Tryz.sizeOf4
  v4 := Tryz.zeroValue4
  t5 := Tryz.underlying5
  a5 := Tryz.isAgg5
  z5 := Tryz.sizeOf5
  v5 := Tryz.zeroValue5
  t9 := Tryz.underlying9
  a9 := Tryz.isAgg9
  z9 := Tryz.sizeOf9
  v9 := Tryz.zeroValue9
  t20 := Tryz.underlying20
  a20 := Tryz.isAgg20
  z20 := Tryz.sizeOf20
  v20 := Tryz.zeroValue20
  t37 := Tryz.underlying22
  a37 := Tryz.isAgg22
  z37 := Tryz.sizeOf22
  v37 := Tryz.zeroValue22
  t46 := Tryz.underlying178
  a46 := Tryz.isAgg178
  z46 := Tryz.sizeOf178
  v46 := Tryz.zeroValue178
  t51 := Tryz.underlying196
  a51 := Tryz.isAgg196
  z51 := Tryz.sizeOf196
  v51 := Tryz.zeroValue196
  t53 := Tryz.underlying214
  a53 := Tryz.isAgg214
  z53 := Tryz.sizeOf214
  v53 := Tryz.zeroValue214
  t171 := Tryz.underlying213
  a171 := Tryz.isAgg213
  z171 := Tryz.sizeOf213
  v171 := Tryz.zeroValue213
  t173 := Tryz.underlying217
  a173 := Tryz.isAgg217
  z173 := Tryz.sizeOf217
  v173 := Tryz.zeroValue217
  t212 := Tryz.underlying244
  a212 := Tryz.isAgg244
  z212 := Tryz.sizeOf244
  v212 := Tryz.zeroValue244
  t213 := Tryz.underlying245
  a213 := Tryz.isAgg245
  z213 := Tryz.sizeOf245
  t232 := Tryz.underlying277
  a232 := Tryz.isAgg277
  z232 := Tryz.sizeOf277
  v232 := Tryz.zeroValue277
  t233 := Tryz.underlying278
  a233 := Tryz.isAgg278
  z233 := Tryz.sizeOf278
  v233 := Tryz.zeroValue278
  g17 := by kernel_rfl
  g18 := by kernel_rfl
  g19 := by kernel_rfl
  i0 := by kernel_rfl
  i2 := by kernel_rfl
  i3 := by kernel_rfl
  i4 := by kernel_rfl
  i5 := by kernel_rfl
  i9 := by kernel_rfl
  i20 := by kernel_rfl
  i37 := by kernel_rfl
  i46 := by kernel_rfl
  i51 := by kernel_rfl
  i53 := by kernel_rfl
  i171 := by kernel_rfl
  i173 := by kernel_rfl
  i212 := by kernel_rfl
  i232 := by kernel_rfl
  i233 := by kernel_rfl
  m17 := by kernel_rfl
  m18 := by kernel_rfl
  m19 := by kernel_rfl }
end Go.Proofs
end
section
namespace Go.Proofs.YtjfjniebmdafeaaGreatDoor
open Go.RowKit Go.Lib Go.Ev Go.Shelf Go.Sort
theorem qqz {w : World} (h : Kept w) {nm : String} (hn : Tryz.prog.globalNamed nm = some 3) : Lib.TabIs Tryz.prog w nm .u64 Lib.pow10Tab := by
  obtain ⟨c, t, z, e, hc⟩ := h _ (List.mem_singleton.2 rfl)
  obtain rfl : c = _ := hc
  unfold Lib.TabIs World.var?
  rw [hn]
  simp only [Option.bind_some]
  rw [e]
theorem kept_of_tab {w : World} {nm : String} (hn : Tryz.prog.globalNamed nm = some 3) (h : Lib.TabIs Tryz.prog w nm .u64 Lib.pow10Tab) : Kept w := by
  intro x hx
  obtain rfl := List.mem_singleton.1 hx
  unfold Lib.TabIs World.var? at h
  rw [hn] at h
  simp only [Option.bind_some] at h
  show ∃ c t z, w.heap[3]? = some (.cells c t z) ∧ c = (Lib.pow10Tab.map fun z => Value.int .u64 z).toArray
  split at h
  · rename_i cs t z e
    exact ⟨_, t, z, e, Option.some.inj h⟩
  · cases h
theorem qj1 {w w' : World} (h : Kept w) (b : Below w.heap.size w w') : Kept w' :=
  h.frame (M := fun _ _ => False) (fr_of_below b) (fun _ _ _ h => h)
theorem qjt (n : Int) (hn : inI64 n = true) (w : World) (hk : Kept w) : Calls Tryz.prog 80 #[.int .i64 n] w fun e w' => e = .returned (.string ⟨(Lib.itoa n).toArray⟩) ∧ Below w.heap.size w w' := by
  unfold inI64 at hn
  simp only [Bool.and_eq_true, decide_eq_true_eq] at hn
  refine (Any.strconv_Itoa Tryz.laysM171 n hn.1 hn.2 w (qqz hk (by kernel_rfl))).mono ?_
  rintro e w' ⟨rfl, k, os, rfl⟩
  exact ⟨rfl, (below_drewN w w.heap.size k).trans (below_grow (w.drewN k) os)⟩
theorem qi6 (n : Int) (hn : inI64 n = true) (w : World) (hk : Kept w) : Calls Tryz.prog 40 #[.int .i64 n] w fun e w' => e = .returned (.string ⟨(Lib.itoa n).toArray⟩) ∧ Below w.heap.size w w' := by
  have c := qjt n hn w hk
  generalize (⟨(Lib.itoa n).toArray⟩ : ByteArray) = s at c ⊢
  go_enter Tryz.func40, Tryz.ntmps40
  go_wp2_with (go_at_call 80; refine c.mono ?_; rintro e w' ⟨rfl, hb⟩)
  go_ret
  exact ⟨rfl, hb⟩
theorem qnr {B : Nat} {e : TypeId} {k : Nat} {v : Value} {n : Nat} {xs : List Value} {w w' : World} (h : w.ownsRow B e k v n xs) (hb : RowKit.Below w.heap.size w w') : w'.ownsRow B e k v n xs := by
  obtain ⟨h1, h2⟩ := h
  refine ⟨h1, h2.imp (fun h => h) ?_⟩
  rintro ⟨g, cap, cur, h3, h4, h5, h6⟩
  exact ⟨g, cap, cur, h3, h4, (hb.block g ((Array.getElem?_eq_some_iff.1 h5).1)).trans h5, h6⟩
theorem qa7 {T e : TypeId} {B b : Nat} {p : Value} {bs : List Value} {w w' : World} (h : BuilderAt T e B b p bs w) (hb : RowKit.Below w.heap.size w w') : BuilderAt T e B b p bs w' := by
  have lt := h.lt
  obtain ⟨hB, v, h1, h2, h3⟩ := h
  exact ⟨hB, v, (hb.block b lt).trans h1, qnr h2 hb, h3⟩
theorem qnb : ∀ (k u : Nat), u < 10 ^ (k + 1) → Lib.nDigits u ≤ k + 1
  | 0, u, h => by rw [Lib.nDigits, dif_pos (by simpa using h)]; exact Nat.le_refl 1
  | k + 1, u, h => by
    rw [Lib.nDigits]
    split
    · omega
    · have := qnb k (u / 10) (by rw [Nat.pow_succ] at h; omega)
      omega
theorem qjv (x : Int) (h : inI64 x = true) : (Lib.itoa x).length ≤ 20 := by
  unfold inI64 at h
  simp only [Bool.and_eq_true, decide_eq_true_eq] at h
  unfold Lib.itoa
  split
  · rw [List.length_cons, Lib.decDigits_length]
    have := qnb 18 x.natAbs (by omega)
    omega
  · rw [Lib.decDigits_length]
    have := qnb 18 x.toNat (by omega)
    omega
theorem qiy (xs : List Int) (h : ∀ x ∈ xs, inI64 x = true) : (xs.flatMap fun n => 32 :: Lib.itoa n).length ≤ 21 * xs.length := by
  induction xs with
  | nil => simp
  | cons x l ih =>
    have a := qjv x (h x List.mem_cons_self)
    have b := ih fun y hy => h y (List.mem_cons_of_mem _ hy)
    simp only [List.flatMap_cons, List.length_append, List.length_cons] at b ⊢
    omega
theorem qoi (word : ByteArray) (xs : List Int) (k : Nat) (hl : xs.length ≤ 1000) (h : ∀ x ∈ xs, inI64 x = true) : (byteCells (spacedL word.data.toList (xs.take k))).length ≤ word.size + 21000 := by
  have a := qiy (xs.take k) fun x hx => h x (List.mem_of_mem_take hx)
  have b : (xs.take k).length ≤ xs.length := by rw [List.length_take]; omega
  rw [byteCells_length, spacedL, List.length_append, Array.length_toList]
  have : word.data.size = word.size := rfl
  omega
theorem qoj (word : ByteArray) (xs : List Int) (k : Nat) (x : Int) (h : xs[k]? = some x) : byteCells (spacedL word.data.toList (xs.take (k + 1))) = byteCells (spacedL word.data.toList (xs.take k)) ++ byteCells (32 :: Lib.itoa x) := by
  obtain ⟨hk, hx⟩ := List.getElem?_eq_some_iff.1 h
  rw [List.take_succ_eq_append_getElem hk, hx, ← byteCells_append]
  simp [spacedL]
theorem qp2 (word : ByteArray) (xs : List Int) (b : Addr) (c : Nat) (w : World) (hk : Kept w) (hw : word.size ≤ 1000) (hl : xs.length ≤ 1000) (hx : ∀ x ∈ xs, inI64 x = true) (hc : ∀ i x, xs[i]? = some x → w.cell? (b.add i) = some (.int .i64 x)) :
    Calls Tryz.prog 30 #[.string word, .slice (some b) xs.length c] w fun e w' => e = .returned (.string ⟨(spacedL word.data.toList xs).toArray⟩) ∧ Below w.heap.size w w' := by
  have h0 : Lib.IsBuilder 117 5 w.heap.size w.heap.size [] (w.alloc (.cells #[.pointer none, .slice none 0 0] 117)) := Lib.fresh_isBuilder 117 5 w
  have b0 : Below w.heap.size w (w.alloc (.cells #[.pointer none, .slice none 0 0] 117)) := (Below.refl _ w).alloc (Nat.le_refl _) _
  go_enter Tryz.func30, Tryz.ntmps30
  go_wp2_with (go_at_call 72; refine (Tryz.Builder_WriteString w.heap.size w.heap.size [] word _ h0 (by simp; omega) b0.size).mono ?_)
  rintro e W1 ⟨rfl, h1, b1⟩
  have h1' : BuilderAt 117 5 w.heap.size w.heap.size (.pointer (some ⟨w.heap.size, 0, none⟩)) (byteCells (spacedL word.data.toList (xs.take 0))) W1 := by
    rw [List.nil_append, strCells_eq] at h1
    simpa [spacedL] using h1
  have b1' := b0.trans b1
  clear h0 b0 h1 b1
  go_wp2
  go_loopw [13] (fun i wr => ∃ k : Nat, k ≤ xs.length ∧ i = .int .i64 k ∧ BuilderAt 117 5 w.heap.size w.heap.size (.pointer (some ⟨w.heap.size, 0, none⟩)) (byteCells (spacedL word.data.toList (xs.take k))) wr ∧ RowKit.Below w.heap.size w wr) (fun i _ => xs.length - (RowKit.intOf i).toNat)
  case atStart => exact ⟨0, Nat.zero_le _, rfl, h1', b1'⟩
  case round =>
    obtain ⟨k, hkl, rfl, hB, hnx⟩ := hrel
    clear h1' b1'
    have hR := qoi word xs k hl hx
    by_cases hlt : k < xs.length
    · obtain ⟨x, ex⟩ : ∃ x, xs[k]? = some x := ⟨_, List.getElem?_eq_getElem hlt⟩
      have e0 : wr.cell? (b.add k) = some (.int .i64 x) := (hnx.cell (World.block_lt_of_cell? _ _ (hc k x ex))).trans (hc k x ex)
      have cF := qi6 x (hx x (List.mem_of_getElem? ex)) wr (qj1 hk hnx)
      have hS := qoj word xs k x ex
      have hsz := qjv x (hx x (List.mem_of_getElem? ex))
      go_wp2_with (go_at_call 40; refine cF.mono ?_)
      rintro e W2 ⟨rfl, b2⟩
      have hB2 := qa7 hB b2
      have b2' := hnx.trans (b2.mono hnx.size)
      clear cF e0 hB hnx b2
      go_wp2_with (go_at_call 72; refine (Tryz.Builder_WriteString w.heap.size w.heap.size _ _ _ (Or.inr hB2) ?_ b2'.size).mono ?_)
      · rw [ByteArray.size_append]
        have s1 : ({ data := (Lib.itoa x).toArray } : ByteArray).size = (Lib.itoa x).length := List.size_toArray ..
        have s2 : ({ data := #[32] } : ByteArray).size = 1 := rfl
        omega
      rintro e W3 ⟨rfl, h3, b3⟩
      go_wp2
      go_roundw
      case rel => exact ⟨k + 1, by omega, by go_num, hS ▸ h3, b2'.trans b3⟩
      case measure => simp [RowKit.intOf]; omega
    · go_wp2_with (go_at_call 73; refine (Tryz.Builder_String_any w.heap.size w.heap.size (spacedL word.data.toList (xs.take k)) _ (Or.inr hB) hnx.size).mono ?_)
      rintro e W2 ⟨rfl, b2⟩
      go_wp2
      go_ret
      refine ⟨?_, hnx.trans b2⟩
      rw [List.take_of_length_le (by omega)]; rfl
theorem qp1 (word : ByteArray) (c : Nat) (w : World) (hk : Kept w) (hw : word.size ≤ 1000) :
    Calls Tryz.prog 30 #[.string word, .slice none 0 c] w fun e w' => e = .returned (.string ⟨(spacedL word.data.toList []).toArray⟩) ∧ Below w.heap.size w w' := by
  have h0 : Lib.IsBuilder 117 5 w.heap.size w.heap.size [] (w.alloc (.cells #[.pointer none, .slice none 0 0] 117)) := Lib.fresh_isBuilder 117 5 w
  have b0 : Below w.heap.size w (w.alloc (.cells #[.pointer none, .slice none 0 0] 117)) := (Below.refl _ w).alloc (Nat.le_refl _) _
  go_enter Tryz.func30, Tryz.ntmps30
  go_wp2_with (go_at_call 72; refine (Tryz.Builder_WriteString w.heap.size w.heap.size [] word _ h0 (by simp; omega) b0.size).mono ?_)
  rintro e W1 ⟨rfl, h1, b1⟩
  have h1' : BuilderAt 117 5 w.heap.size w.heap.size (.pointer (some ⟨w.heap.size, 0, none⟩)) (byteCells (spacedL word.data.toList [])) W1 := by
    rw [List.nil_append, strCells_eq] at h1
    simpa [spacedL] using h1
  have b1' := b0.trans b1
  clear h0 b0 h1 b1
  go_wp2
  go_loopw [13] (fun i wr => ∃ k : Nat, k ≤ 0 ∧ i = .int .i64 k ∧ BuilderAt 117 5 w.heap.size w.heap.size (.pointer (some ⟨w.heap.size, 0, none⟩)) (byteCells (spacedL word.data.toList [])) wr ∧ RowKit.Below w.heap.size w wr) (fun i _ => 0 - (RowKit.intOf i).toNat)
  case atStart => exact ⟨0, Nat.zero_le _, rfl, h1', b1'⟩
  case round =>
    obtain ⟨k, hkl, rfl, hB, hnx⟩ := hrel
    clear h1' b1'
    obtain rfl : k = 0 := by omega
    go_wp2_with (go_at_call 73; refine (Tryz.Builder_String_any w.heap.size w.heap.size (spacedL word.data.toList []) _ (Or.inr hB) hnx.size).mono ?_)
    rintro e W2 ⟨rfl, b2⟩
    go_wp2
    go_ret
    refine ⟨?_, hnx.trans b2⟩
    rfl
end Go.Proofs.YtjfjniebmdafeaaGreatDoor
end
section
namespace Go.Proofs.YtjfjniebmdafeaaGreatDoor
open Go.Ev
def qo1 (x0 : Int) (z1 : Bool) (l2 : List (Int × Int × Int)) (z3 : Bool) (l4 : List Int) (z5 : Bool) (l6 : List Int) (z7 : Bool) (l8 : List Int) (x9 : Int) : St := ⟨fill 84 [(1, (.ptr 4 (0) (0))), (3, (.int .i64 (x0)))], [], [(.arr false (z1) (.r3 (l2))), (.arr false (z3) (.ints .i64 (l4))), (.arr false (z5) (.ints .i64 (l6))), (.arr false (z7) (.ints .i64 (l8))), (.box true [(.int .i64 (x9)), (.sl 0 none), (.sl 1 none), (.sl 2 none), (.sl 3 none)])]⟩
def qo2 (x0 : Int) (z1 : Bool) (l2 : List (Int × Int × Int)) (z3 : Bool) (l4 : List Int) (z5 : Bool) (l6 : List Int) (z7 : Bool) (l8 : List Int) (x9 : Int) : St := ⟨fill 84 [(1, (.ptr 4 (0) (0))), (4, (.int .i64 (x0)))], [], [(.arr false (z1) (.r3 (l2))), (.arr false (z3) (.ints .i64 (l4))), (.arr false (z5) (.ints .i64 (l6))), (.arr false (z7) (.ints .i64 (l8))), (.box true [(.int .i64 (x9)), (.sl 0 none), (.sl 1 none), (.sl 2 none), (.sl 3 none)])]⟩
theorem qhf (k : Nat) (a0 : Int) (a1z : Bool) (a1 : List (Int × Int × Int)) (a2z : Bool) (a2 : List Int) (a3z : Bool) (a3 : List Int) (a4z : Bool) (a4 : List Int) : go (k + 1) spec_StateOk [(.agg [(.int .i64 (a0)), (.arr false (a1z) (.r3 (a1))), (.arr false (a2z) (.ints .i64 (a2))), (.arr false (a3z) (.ints .i64 (a3))), (.arr false (a4z) (.ints .i64 (a4)))])] =
 (go k spec_IsBalanced [(.agg [(.int .i64 (a0)), (.arr false (a1z) (.r3 (a1)))])]).bind fun r0 =>
 cond (!bit (nth r0 0))
 (some [(.bool (false))])
 (cond (!decide (nI (List.length a2) = nI (List.length a1)))
 (some [(.bool (false))])
 (cond (!decide (nI (List.length a3) = nI (List.length a2)))
 (some [(.bool (false))])
 (cond (!decide (nI (List.length a4) = a0))
 (some [(.bool (false))])
 (lp k spec_StateOk [] [] 4 k (qo1 (0 : Int) a1z a1 a2z a2 a3z a3 a4z a4 a0))))) := by kernel_rfl
theorem qkk (k n : Nat) (fu : List (Nat × Nat)) (x0 : Int) (z1 : Bool) (l2 : List (Int × Int × Int)) (z3 : Bool) (l4 : List Int) (z5 : Bool) (l6 : List Int) (z7 : Bool) (l8 : List Int) (x9 : Int) : lp k spec_StateOk [] fu 4 (n + 1) (qo1 x0 z1 l2 z3 l4 z5 l6 z7 l8 x9) =
 cond (decide (x0 < nI (List.length l4)))
 (cond (decide ((0 : Int) ≤ x0) && decide (x0 < nI (List.length l4)))
 ((go k spec_l01In [(.int .i64 (List.getD l4 (Int.toNat x0) (0 : Int))), (.int .i64 (0 : Int)), (.int .i64 ((10000000 : Int)))]).bind fun r0 =>
 cond (!bit (nth r0 0))
 (some [(.bool (false))])
 (cond (decide ((0 : Int) ≤ x0) && decide (x0 < nI (List.length l6)))
 (cond (decide ((0 : Int) ≤ x0) && decide (x0 < nI (List.length l4)))
 ((go k spec_l01In [(.int .i64 (List.getD l6 (Int.toNat x0) (0 : Int))), (.int .i64 (0 : Int)), (.int .i64 (IntKind.wrap .i64 ((1000 : Int) * List.getD l4 (Int.toNat x0) (0 : Int))))]).bind fun r1 =>
 cond (!bit (nth r1 0))
 (some [(.bool (false))])
 (lp k spec_StateOk [] fu 4 n (qo1 (IntKind.wrap .i64 (x0 + (1 : Int))) z1 l2 z3 l4 z5 l6 z7 l8 x9)))
 (none))
 (none)))
 (none))
 (lp k spec_StateOk [] fu 9 k (qo2 (0 : Int) z1 l2 z3 l4 z5 l6 z7 l8 x9)) := by kernel_rfl
theorem qkl (k n : Nat) (fu : List (Nat × Nat)) (x0 : Int) (z1 : Bool) (l2 : List (Int × Int × Int)) (z3 : Bool) (l4 : List Int) (z5 : Bool) (l6 : List Int) (z7 : Bool) (l8 : List Int) (x9 : Int) : lp k spec_StateOk [] fu 9 (n + 1) (qo2 x0 z1 l2 z3 l4 z5 l6 z7 l8 x9) =
 cond (decide (x0 < nI (List.length l8)))
 (cond (decide ((0 : Int) ≤ x0) && decide (x0 < nI (List.length l8)))
 ((go k spec_l01In [(.int .i64 (List.getD l8 (Int.toNat x0) (0 : Int))), (.int .i64 (0 : Int)), (.int .i64 ((1000000 : Int)))]).bind fun r0 =>
 cond (!bit (nth r0 0))
 (some [(.bool (false))])
 (lp k spec_StateOk [] fu 9 n (qo2 (IntKind.wrap .i64 (x0 + (1 : Int))) z1 l2 z3 l4 z5 l6 z7 l8 x9)))
 (none))
 ((go k spec_l07Sum [(.arr false (z3) (.ints .i64 (l4)))]).bind fun r1 =>
 some [(.bool (decide (D.toInt (nth r1 0) ≤ (10000000 : Int))))]) := by kernel_rfl
theorem qf6 (k : Nat) (a0 : Int) (a1z : Bool) (a1 : List (Int × Int × Int)) (a2z : Bool) (a2 : List Int) (a3z : Bool) (a3 : List Int) (a4z : Bool) (a4 : List Int) : go (k + 1) impl_StateOk [(.agg [(.int .i64 (a0)), (.arr false (a1z) (.r3 (a1))), (.arr false (a2z) (.ints .i64 (a2))), (.arr false (a3z) (.ints .i64 (a3))), (.arr false (a4z) (.ints .i64 (a4)))])] =
 (go k impl_IsBalanced [(.agg [(.int .i64 (a0)), (.arr false (a1z) (.r3 (a1)))])]).bind fun r0 =>
 cond (bit (nth r0 0))
 ((go k impl_State_hasCells [(.agg [(.int .i64 (a0)), (.arr false (a1z) (.r3 (a1))), (.arr false (a2z) (.ints .i64 (a2))), (.arr false (a3z) (.ints .i64 (a3))), (.arr false (a4z) (.ints .i64 (a4)))])]).bind fun r1 =>
 some [(.bool (bit (nth r1 0)))])
 (some [(.bool (false))]) := by kernel_rfl
def qoq (x0 x1 : Int) (z2 : Bool) (l3 : List (Int × Int × Int)) (z4 : Bool) (l5 : List Int) (z6 : Bool) (l7 : List Int) (z8 : Bool) (l9 : List Int) (x10 : Int) : St := ⟨fill 63 [(1, (.ptr 4 (0) (0))), (37, (.sl 1 none)), (38, (.int .i64 (x0))), (39, (.int .i64 (x1)))], [], [(.arr false (z2) (.r3 (l3))), (.arr false (z4) (.ints .i64 (l5))), (.arr false (z6) (.ints .i64 (l7))), (.arr false (z8) (.ints .i64 (l9))), (.box true [(.int .i64 (x10)), (.sl 0 none), (.sl 1 none), (.sl 2 none), (.sl 3 none)])]⟩
theorem qf7 (k : Nat) (a0 : Int) (a1z : Bool) (a1 : List (Int × Int × Int)) (a2z : Bool) (a2 : List Int) (a3z : Bool) (a3 : List Int) (a4z : Bool) (a4 : List Int) : go (k + 1) impl_State_hasCells [(.agg [(.int .i64 (a0)), (.arr false (a1z) (.r3 (a1))), (.arr false (a2z) (.ints .i64 (a2))), (.arr false (a3z) (.ints .i64 (a3))), (.arr false (a4z) (.ints .i64 (a4)))])] =
 cond (!decide (nI (List.length a2) = nI (List.length a1)))
 (some [(.bool (false))])
 (cond (!decide (nI (List.length a3) = nI (List.length a1)))
 (some [(.bool (false))])
 (cond (!decide (nI (List.length a4) = a0))
 (some [(.bool (false))])
 ((go k slices_ContainsFunc_int_int [(.arr false (a4z) (.ints .i64 (a4))), (.fn impl_State_hasCells_1 [])]).bind fun r0 =>
 cond (bit (nth r0 0))
 (some [(.bool (false))])
 (lp k impl_State_hasCells [] [] 5 k (qoq (nI (List.length a2)) (0 : Int) a1z a1 a2z a2 a3z a3 a4z a4 a0))))) := by kernel_rfl
theorem qj9 (k n : Nat) (fu : List (Nat × Nat)) (x0 x1 : Int) (z2 : Bool) (l3 : List (Int × Int × Int)) (z4 : Bool) (l5 : List Int) (z6 : Bool) (l7 : List Int) (z8 : Bool) (l9 : List Int) (x10 : Int) : lp k impl_State_hasCells [] fu 5 (n + 1) (qoq x0 x1 z2 l3 z4 l5 z6 l7 z8 l9 x10) =
 cond (decide (x1 < x0))
 (cond (decide ((0 : Int) ≤ x1) && decide (x1 < nI (List.length l5)))
 ((go k impl_within [(.int .i64 (List.getD l5 (Int.toNat x1) (0 : Int))), (.int .i64 (0 : Int)), (.int .i64 ((10000000 : Int)))]).bind fun r0 =>
 cond (!bit (nth r0 0))
 (some [(.bool (false))])
 (cond (decide ((0 : Int) ≤ x1) && decide (x1 < nI (List.length l7)))
 ((go k impl_within [(.int .i64 (List.getD l7 (Int.toNat x1) (0 : Int))), (.int .i64 (0 : Int)), (.int .i64 (IntKind.wrap .i64 ((1000 : Int) * List.getD l5 (Int.toNat x1) (0 : Int))))]).bind fun r1 =>
 cond (!bit (nth r1 0))
 (some [(.bool (false))])
 (lp k impl_State_hasCells [] fu 5 n (qoq x0 (IntKind.wrap .i64 (x1 + (1 : Int))) z2 l3 z4 l5 z6 l7 z8 l9 x10)))
 (none)))
 (none))
 ((go k impl_sum [(.arr false (z4) (.ints .i64 (l5)))]).bind fun r2 =>
 some [(.bool (decide (D.toInt (nth r2 0) ≤ (10000000 : Int))))]) := by kernel_rfl
theorem qf8 (k : Nat) (a : Int) : go (k + 1) impl_State_hasCells_1 [(.int .i64 (a))] =
 (go k impl_isBed [(.int .i64 (a))]).bind fun r0 =>
 some [(.bool (!bit (nth r0 0)))] := by kernel_rfl
theorem qgg (k : Nat) (a : Int) : go (k + 1) impl_isBed [(.int .i64 (a))] =
 (go k impl_within [(.int .i64 (a)), (.int .i64 (0 : Int)), (.int .i64 ((1000000 : Int)))]).bind fun r0 =>
 some [(.bool (bit (nth r0 0)))] := by kernel_rfl
def qo8 (x0 x1 : Int) (z2 : Bool) (l3 : List Int) : St := ⟨fill 18 [(0, (.sl 0 none)), (3, (.int .i64 (x0))), (4, (.int .i64 (x1)))], [], [(.arr false (z2) (.ints .i64 (l3)))]⟩
theorem qh2 (k : Nat) (az : Bool) (a : List Int) : go (k + 1) spec_l07Sum [(.arr false (az) (.ints .i64 (a)))] =
 lp k spec_l07Sum [] [] 3 k (qo8 (0 : Int) (0 : Int) az a) := by kernel_rfl
theorem qkr (k n : Nat) (fu : List (Nat × Nat)) (x0 x1 : Int) (z2 : Bool) (l3 : List Int) : lp k spec_l07Sum [] fu 3 (n + 1) (qo8 x0 x1 z2 l3) =
 cond (decide (x1 < nI (List.length l3)))
 (cond (decide ((0 : Int) ≤ x1) && decide (x1 < nI (List.length l3)))
 (lp k spec_l07Sum [] fu 3 n (qo8 (IntKind.wrap .i64 (x0 + List.getD l3 (Int.toNat x1) (0 : Int))) (IntKind.wrap .i64 (x1 + (1 : Int))) z2 l3))
 (none))
 (some [(.int .i64 (x0))]) := by kernel_rfl
def qor (x0 x1 x2 : Int) (z3 : Bool) (l4 : List Int) : St := ⟨fill 17 [(3, (.int .i64 (x0))), (6, (.sl 0 none)), (7, (.int .i64 (x1))), (8, (.int .i64 (x2)))], [], [(.arr false (z3) (.ints .i64 (l4)))]⟩
theorem qgm (k : Nat) (az : Bool) (a : List Int) : go (k + 1) impl_sum [(.arr false (az) (.ints .i64 (a)))] =
 lp k impl_sum [] [] 3 k (qor (0 : Int) (nI (List.length a)) (0 : Int) az a) := by kernel_rfl
theorem qka (k n : Nat) (fu : List (Nat × Nat)) (x0 x1 x2 : Int) (z3 : Bool) (l4 : List Int) : lp k impl_sum [] fu 3 (n + 1) (qor x0 x1 x2 z3 l4) =
 cond (decide (x2 < x1))
 (cond (decide ((0 : Int) ≤ x2) && decide (x2 < nI (List.length l4)))
 (lp k impl_sum [] fu 3 n (qor (IntKind.wrap .i64 (x0 + List.getD l4 (Int.toNat x2) (0 : Int))) x1 (IntKind.wrap .i64 (x2 + (1 : Int))) z3 l4))
 (none))
 (some [(.int .i64 (x0))]) := by kernel_rfl
def qot (x0 x1 : Int) (z2 : Bool) (l3 : List Int) : St := ⟨fill 19 [(0, (.sl 0 none)), (1, (.fn impl_State_hasCells_1 [])), (7, (.int .i64 (x0))), (8, (.int .i64 (x1)))], [], [(.arr false (z2) (.ints .i64 (l3)))]⟩
theorem qgs (k : Nat) (v0 : Bool) (v1 : List Int) : go (k + 1) slices_IndexFunc_int_int [(.arr false (v0) (.ints .i64 (v1))), (.fn impl_State_hasCells_1 [])] =
 lp k slices_IndexFunc_int_int [] [] 2 k (qot (nI (List.length v1)) (0 : Int) v0 v1) := by kernel_rfl
theorem qkc (k n : Nat) (fu : List (Nat × Nat)) (x0 x1 : Int) (z2 : Bool) (l3 : List Int) : lp k slices_IndexFunc_int_int [] fu 2 (n + 1) (qot x0 x1 z2 l3) =
 cond (decide (x1 < x0))
 (cond (decide ((0 : Int) ≤ x1) && decide (x1 < nI (List.length l3)))
 ((go k impl_State_hasCells_1 [(.int .i64 (List.getD l3 (Int.toNat x1) (0 : Int)))]).bind fun r0 =>
 cond (bit (nth r0 0))
 (some [(.int .i64 (x1))])
 (lp k slices_IndexFunc_int_int [] fu 2 n (qot x0 (IntKind.wrap .i64 (x1 + (1 : Int))) z2 l3)))
 (none))
 (some [(.int .i64 ((-1 : Int)))]) := by kernel_rfl
theorem qgr (k : Nat) (v0 : Bool) (v1 : List Int) : go (k + 1) slices_ContainsFunc_int_int [(.arr false (v0) (.ints .i64 (v1))), (.fn impl_State_hasCells_1 [])] =
 (go k slices_IndexFunc_int_int [(.arr false (v0) (.ints .i64 (v1))), (.fn impl_State_hasCells_1 [])]).bind fun r0 =>
 some [(.bool (decide ((0 : Int) ≤ D.toInt (nth r0 0))))] := by kernel_rfl
theorem qhp (k : Nat) (a0 : Int) (a1z : Bool) (a1 : List (Int × Int × Int)) : go (k + 1) spec_l04Copy [(.agg [(.int .i64 (a0)), (.arr false (a1z) (.r3 (a1)))])] =
 cond (decide (List.length ([] ++ a1) ≤ bigLen))
 (some [(.agg [(.int .i64 (a0)), (.arr true (false && decide (List.length ([] ++ a1) = 0)) (.r3 ([] ++ a1)))])])
 (none) := by kernel_rfl
theorem qh0 (k : Nat) (a0 : Int) (a1z : Bool) (a1 : List (Int × Int × Int)) (a2z : Bool) (a2 : List Int) (a3z : Bool) (a3 : List Int) (a4z : Bool) (a4 : List Int) : go (k + 1) spec_l07Copy [(.agg [(.int .i64 (a0)), (.arr false (a1z) (.r3 (a1))), (.arr false (a2z) (.ints .i64 (a2))), (.arr false (a3z) (.ints .i64 (a3))), (.arr false (a4z) (.ints .i64 (a4)))])] =
 (go k spec_l04Copy [(.agg [(.int .i64 (a0)), (.arr false (a1z) (.r3 (a1)))])]).bind fun r0 =>
 cond (decide (List.length ([] ++ a2) ≤ bigLen))
 (cond (decide (List.length ([] ++ a3) ≤ bigLen))
 (cond (decide (List.length ([] ++ a4) ≤ bigLen))
 (some [(.agg [(.int .i64 (D.toInt (D.cell 0 (nth r0 0)))), (.arr true (D.nil (D.cell 1 (nth r0 0))) (.r3 (D.r3 (D.cell 1 (nth r0 0))))), (.arr true (false && decide (List.length ([] ++ a2) = 0)) (.ints .i64 ([] ++ a2))), (.arr true (false && decide (List.length ([] ++ a3) = 0)) (.ints .i64 ([] ++ a3))), (.arr true (false && decide (List.length ([] ++ a4) = 0)) (.ints .i64 ([] ++ a4)))])])
 (none))
 (none))
 (none) := by kernel_rfl
end Go.Proofs.YtjfjniebmdafeaaGreatDoor
end
section
namespace Go.Proofs.YtjfjniebmdafeaaGreatDoor
open Go.Ev
theorem qhn (k : Nat) (a b c : Int) : go (k + 1) spec_l01In [(.int .i64 (a)), (.int .i64 (b)), (.int .i64 (c))] =
 cond (decide (b ≤ a))
 (some [(.bool (decide (a ≤ c)))])
 (some [(.bool (false))]) := by kernel_rfl
theorem qgn (k : Nat) (a b c : Int) : go (k + 1) impl_within [(.int .i64 (a)), (.int .i64 (b)), (.int .i64 (c))] =
 cond (decide (b ≤ a))
 (some [(.bool (decide (a ≤ c)))])
 (some [(.bool (false))]) := by kernel_rfl
theorem qgh (k : Nat) (a : Int) : go (k + 1) impl_isLevel [(.int .i64 (a))] =
 (go k impl_within [(.int .i64 (a)), (.int .i64 (0 : Int)), (.int .i64 ((4 : Int)))]).bind fun r0 =>
 some [(.bool (bit (nth r0 0)))] := by kernel_rfl
theorem qg1 (k : Nat) (a0 a1 a2 : Int) : go (k + 1) spec_IdOk [(.agg [(.int .i64 (a0)), (.int .i64 (a1)), (.int .i64 (a2))])] =
 (go k spec_l01In [(.int .i64 (a0)), (.int .i64 (0 : Int)), (.int .i64 ((7 : Int)))]).bind fun r0 =>
 cond (bit (nth r0 0))
 ((go k spec_l01In [(.int .i64 (a1)), (.int .i64 (0 : Int)), (.int .i64 ((4 : Int)))]).bind fun r1 =>
 cond (bit (nth r1 0))
 (cond (decide ((0 : Int) ≤ a2))
 (cond (decide ((0 : Int) ≤ IntKind.wrap IntKind.u64 a1))
 (some [(.bool (decide (a2 < IntKind.wrap .i64 ((1 : Int) * (2 : Int) ^ shiftN .i64 (IntKind.wrap IntKind.u64 a1)))))])
 (none))
 (some [(.bool (false))]))
 (some [(.bool (false))]))
 (some [(.bool (false))]) := by kernel_rfl
theorem qfx (k : Nat) (a0 a1 a2 : Int) : go (k + 1) impl_IdOk [(.agg [(.int .i64 (a0)), (.int .i64 (a1)), (.int .i64 (a2))])] =
 (go k impl_within [(.int .i64 (a0)), (.int .i64 (0 : Int)), (.int .i64 ((7 : Int)))]).bind fun r0 =>
 cond (bit (nth r0 0))
 ((go k impl_isLevel [(.int .i64 (a1))]).bind fun r1 =>
 cond (bit (nth r1 0))
 (cond (decide ((0 : Int) ≤ a1))
 ((go k impl_within [(.int .i64 (a2)), (.int .i64 (0 : Int)), (.int .i64 (IntKind.wrap .i64 (IntKind.wrap .i64 ((1 : Int) * (2 : Int) ^ shiftN .i64 a1) - (1 : Int))))]).bind fun r2 =>
 some [(.bool (bit (nth r2 0)))])
 (none))
 (some [(.bool (false))]))
 (some [(.bool (false))]) := by kernel_rfl
theorem qhh (k : Nat) (a : Int) : go (k + 1) spec_WidthOf [(.int .i64 (a))] =
 (go k spec_l01In [(.int .i64 (a)), (.int .i64 (0 : Int)), (.int .i64 ((4 : Int)))]).bind fun r0 =>
 cond (!bit (nth r0 0))
 (some [(.int .i64 (0 : Int))])
 (cond (decide ((0 : Int) ≤ IntKind.wrap IntKind.u64 a))
 (some [(.int .i64 (Int.fdiv (16 : Int) ((2 : Int) ^ shiftN .i64 (IntKind.wrap IntKind.u64 a))))])
 (none)) := by kernel_rfl
theorem qga (k : Nat) (a : Int) : go (k + 1) impl_WidthOf [(.int .i64 (a))] =
 (go k impl_isLevel [(.int .i64 (a))]).bind fun r0 =>
 cond (!bit (nth r0 0))
 (some [(.int .i64 (0 : Int))])
 (cond (decide ((0 : Int) ≤ a))
 (some [(.int .i64 (Int.fdiv (16 : Int) ((2 : Int) ^ shiftN .i64 a)))])
 (none)) := by kernel_rfl
theorem qhe (k : Nat) (a0 a1 a2 : Int) : go (k + 1) spec_StartOf [(.agg [(.int .i64 (a0)), (.int .i64 (a1)), (.int .i64 (a2))])] =
 (go k spec_IdOk [(.agg [(.int .i64 (a0)), (.int .i64 (a1)), (.int .i64 (a2))])]).bind fun r0 =>
 cond (!bit (nth r0 0))
 (some [(.int .i64 ((-1 : Int)))])
 ((go k spec_WidthOf [(.int .i64 (a1))]).bind fun r1 =>
 some [(.int .i64 (IntKind.wrap .i64 (IntKind.wrap .i64 (a0 * (16 : Int)) + IntKind.wrap .i64 (a2 * D.toInt (nth r1 0)))))]) := by kernel_rfl
theorem qf4 (k : Nat) (a0 a1 a2 : Int) : go (k + 1) impl_StartOf [(.agg [(.int .i64 (a0)), (.int .i64 (a1)), (.int .i64 (a2))])] =
 (go k impl_IdOk [(.agg [(.int .i64 (a0)), (.int .i64 (a1)), (.int .i64 (a2))])]).bind fun r0 =>
 cond (!bit (nth r0 0))
 (some [(.int .i64 ((-1 : Int)))])
 ((go k impl_WidthOf [(.int .i64 (a1))]).bind fun r1 =>
 some [(.int .i64 (IntKind.wrap .i64 (IntKind.wrap .i64 (a0 * (16 : Int)) + IntKind.wrap .i64 (a2 * D.toInt (nth r1 0)))))]) := by kernel_rfl
theorem qhq (k : Nat) (a0 a1 a2 : Int) : go (k + 1) spec_l04End [(.agg [(.int .i64 (a0)), (.int .i64 (a1)), (.int .i64 (a2))])] =
 (go k spec_StartOf [(.agg [(.int .i64 (a0)), (.int .i64 (a1)), (.int .i64 (a2))])]).bind fun r0 =>
 (go k spec_WidthOf [(.int .i64 (a1))]).bind fun r1 =>
 some [(.int .i64 (IntKind.wrap .i64 (D.toInt (nth r0 0) + D.toInt (nth r1 0))))] := by kernel_rfl
theorem qge (k : Nat) (a0 a1 a2 : Int) : go (k + 1) impl_endOf [(.agg [(.int .i64 (a0)), (.int .i64 (a1)), (.int .i64 (a2))])] =
 (go k impl_StartOf [(.agg [(.int .i64 (a0)), (.int .i64 (a1)), (.int .i64 (a2))])]).bind fun r0 =>
 (go k impl_WidthOf [(.int .i64 (a1))]).bind fun r1 =>
 some [(.int .i64 (IntKind.wrap .i64 (D.toInt (nth r0 0) + D.toInt (nth r1 0))))] := by kernel_rfl
def qo0 (x0 x1 : Int) (z2 : Bool) (l3 : List (Int × Int × Int)) (x4 : Int) : St := ⟨fill 45 [(1, (.ptr 1 (0) (0))), (3, (.int .i64 (x0))), (4, (.int .i64 (x1)))], [], [(.arr false (z2) (.r3 (l3))), (.box true [(.int .i64 (x4)), (.sl 0 none)])]⟩
theorem qg9 (k : Nat) (a0 : Int) (a1z : Bool) (a1 : List (Int × Int × Int)) : go (k + 1) spec_MeshOk [(.agg [(.int .i64 (a0)), (.arr false (a1z) (.r3 (a1)))])] =
 lp k spec_MeshOk [] [] 3 k (qo0 (0 : Int) (0 : Int) a1z a1 a0) := by kernel_rfl
theorem qkj (k n : Nat) (fu : List (Nat × Nat)) (x0 x1 : Int) (z2 : Bool) (l3 : List (Int × Int × Int)) (x4 : Int) : lp k spec_MeshOk [] fu 3 (n + 1) (qo0 x0 x1 z2 l3 x4) =
 cond (decide (x1 < nI (List.length l3)))
 (cond (decide ((0 : Int) ≤ x1) && decide (x1 < nI (List.length l3)))
 ((go k spec_IdOk [(.agg [(.int .i64 (Prod.fst (List.getD l3 (Int.toNat x1) zz3))), (.int .i64 (Prod.fst (Prod.snd (List.getD l3 (Int.toNat x1) zz3)))), (.int .i64 (Prod.snd (Prod.snd (List.getD l3 (Int.toNat x1) zz3))))])]).bind fun r0 =>
 cond (!bit (nth r0 0))
 (some [(.bool (false))])
 (cond (decide ((0 : Int) ≤ x1) && decide (x1 < nI (List.length l3)))
 ((go k spec_StartOf [(.agg [(.int .i64 (Prod.fst (List.getD l3 (Int.toNat x1) zz3))), (.int .i64 (Prod.fst (Prod.snd (List.getD l3 (Int.toNat x1) zz3)))), (.int .i64 (Prod.snd (Prod.snd (List.getD l3 (Int.toNat x1) zz3))))])]).bind fun r1 =>
 cond (!decide (D.toInt (nth r1 0) = x0))
 (some [(.bool (false))])
 (cond (decide ((0 : Int) ≤ x1) && decide (x1 < nI (List.length l3)))
 ((go k spec_l04End [(.agg [(.int .i64 (Prod.fst (List.getD l3 (Int.toNat x1) zz3))), (.int .i64 (Prod.fst (Prod.snd (List.getD l3 (Int.toNat x1) zz3)))), (.int .i64 (Prod.snd (Prod.snd (List.getD l3 (Int.toNat x1) zz3))))])]).bind fun r2 =>
 lp k spec_MeshOk [] fu 3 n (qo0 (D.toInt (nth r2 0)) (IntKind.wrap .i64 (x1 + (1 : Int))) z2 l3 x4))
 (none)))
 (none)))
 (none))
 ((go k spec_l01In [(.int .i64 (x4)), (.int .i64 ((1 : Int))), (.int .i64 ((8 : Int)))]).bind fun r3 =>
 cond (bit (nth r3 0))
 (some [(.bool (decide (x0 = IntKind.wrap .i64 (x4 * (16 : Int)))))])
 (some [(.bool (false))])) := by kernel_rfl
def qoo (x0 x1 x2 : Int) (z3 : Bool) (l4 : List (Int × Int × Int)) (x5 : Int) : St := ⟨fill 35 [(1, (.ptr 1 (0) (0))), (3, (.int .i64 (x0))), (7, (.sl 0 none)), (8, (.int .i64 (x1))), (9, (.int .i64 (x2)))], [], [(.arr false (z3) (.r3 (l4))), (.box true [(.int .i64 (x5)), (.sl 0 none)])]⟩
theorem qf0 (k : Nat) (a0 : Int) (a1z : Bool) (a1 : List (Int × Int × Int)) : go (k + 1) impl_MeshOk [(.agg [(.int .i64 (a0)), (.arr false (a1z) (.r3 (a1)))])] =
 lp k impl_MeshOk [] [] 3 k (qoo (0 : Int) (nI (List.length a1)) (0 : Int) a1z a1 a0) := by kernel_rfl
theorem qj6 (k n : Nat) (fu : List (Nat × Nat)) (x0 x1 x2 : Int) (z3 : Bool) (l4 : List (Int × Int × Int)) (x5 : Int) : lp k impl_MeshOk [] fu 3 (n + 1) (qoo x0 x1 x2 z3 l4 x5) =
 cond (decide (x2 < x1))
 (cond (decide ((0 : Int) ≤ x2) && decide (x2 < nI (List.length l4)))
 ((go k impl_IdOk [(.agg [(.int .i64 (Prod.fst (List.getD l4 (Int.toNat x2) zz3))), (.int .i64 (Prod.fst (Prod.snd (List.getD l4 (Int.toNat x2) zz3)))), (.int .i64 (Prod.snd (Prod.snd (List.getD l4 (Int.toNat x2) zz3))))])]).bind fun r0 =>
 cond (!bit (nth r0 0))
 (some [(.bool (false))])
 ((go k impl_StartOf [(.agg [(.int .i64 (Prod.fst (List.getD l4 (Int.toNat x2) zz3))), (.int .i64 (Prod.fst (Prod.snd (List.getD l4 (Int.toNat x2) zz3)))), (.int .i64 (Prod.snd (Prod.snd (List.getD l4 (Int.toNat x2) zz3))))])]).bind fun r1 =>
 cond (!decide (D.toInt (nth r1 0) = x0))
 (some [(.bool (false))])
 ((go k impl_endOf [(.agg [(.int .i64 (Prod.fst (List.getD l4 (Int.toNat x2) zz3))), (.int .i64 (Prod.fst (Prod.snd (List.getD l4 (Int.toNat x2) zz3)))), (.int .i64 (Prod.snd (Prod.snd (List.getD l4 (Int.toNat x2) zz3))))])]).bind fun r2 =>
 lp k impl_MeshOk [] fu 3 n (qoo (D.toInt (nth r2 0)) x1 (IntKind.wrap .i64 (x2 + (1 : Int))) z3 l4 x5))))
 (none))
 ((go k impl_within [(.int .i64 (x5)), (.int .i64 ((1 : Int))), (.int .i64 ((8 : Int)))]).bind fun r3 =>
 cond (bit (nth r3 0))
 (some [(.bool (decide (x0 = IntKind.wrap .i64 (x5 * (16 : Int)))))])
 (some [(.bool (false))])) := by kernel_rfl
theorem qhu (k : Nat) (a0 : Int) (a1z : Bool) (a1 : List (Int × Int × Int)) (b : Int) : go (k + 1) spec_l05Face [(.agg [(.int .i64 (a0)), (.arr false (a1z) (.r3 (a1)))]), (.int .i64 (b))] =
 cond (decide ((0 : Int) ≤ b) && decide (b < nI (List.length a1)))
 (cond (decide ((0 : Int) ≤ IntKind.wrap .i64 (b + (1 : Int))) && decide (IntKind.wrap .i64 (b + (1 : Int)) < nI (List.length a1)))
 (some [(.int .i64 (if Prod.fst (Prod.snd (List.getD a1 (Int.toNat (IntKind.wrap .i64 (b + (1 : Int)))) zz3)) > Prod.fst (Prod.snd (List.getD a1 (Int.toNat b) zz3)) then Prod.fst (Prod.snd (List.getD a1 (Int.toNat (IntKind.wrap .i64 (b + (1 : Int)))) zz3)) else Prod.fst (Prod.snd (List.getD a1 (Int.toNat b) zz3))))])
 (none))
 (none) := by kernel_rfl
theorem qg2 (k : Nat) (a b : Int) : go (k + 1) spec_IsActive [(.int .i64 (a)), (.int .i64 (b))] =
 (go k spec_WidthOf [(.int .i64 (b))]).bind fun r0 =>
 cond (decide ((0 : Int) ≤ a))
 (cond (decide ((0 : Int) < D.toInt (nth r0 0)))
 (cond (!decide (D.toInt (nth r0 0) = (0 : Int)))
 (some [(.bool (decide (Int.tmod a (D.toInt (nth r0 0)) = (0 : Int))))])
 (none))
 (some [(.bool (false))]))
 (some [(.bool (false))]) := by kernel_rfl
def qo5 (x0 : Int) (z1 : Bool) (l2 : List (Int × Int × Int)) (x3 : Int) : St := ⟨fill 34 [(1, (.ptr 1 (0) (0))), (3, (.int .i64 (x0)))], [], [(.arr false (z1) (.r3 (l2))), (.box true [(.int .i64 (x3)), (.sl 0 none)])]⟩
theorem qhv (k : Nat) (a0 : Int) (a1z : Bool) (a1 : List (Int × Int × Int)) : go (k + 1) spec_l05First [(.agg [(.int .i64 (a0)), (.arr false (a1z) (.r3 (a1)))])] =
 lp k spec_l05First [] [] 2 k (qo5 (0 : Int) a1z a1 a0) := by kernel_rfl
theorem qko (k n : Nat) (fu : List (Nat × Nat)) (x0 : Int) (z1 : Bool) (l2 : List (Int × Int × Int)) (x3 : Int) : lp k spec_l05First [] fu 2 (n + 1) (qo5 x0 z1 l2 x3) =
 cond (decide (IntKind.wrap .i64 (x0 + (1 : Int)) < nI (List.length l2)))
 (cond (decide ((0 : Int) ≤ x0) && decide (x0 < nI (List.length l2)))
 (cond (decide ((0 : Int) ≤ IntKind.wrap .i64 (x0 + (1 : Int))) && decide (IntKind.wrap .i64 (x0 + (1 : Int)) < nI (List.length l2)))
 (cond (decide ((1 : Int) < IntKind.wrap .i64 (Prod.fst (Prod.snd (List.getD l2 (Int.toNat x0) zz3)) - Prod.fst (Prod.snd (List.getD l2 (Int.toNat (IntKind.wrap .i64 (x0 + (1 : Int)))) zz3)))))
 (some [(.int .i64 (x0))])
 (cond (decide (IntKind.wrap .i64 (Prod.fst (Prod.snd (List.getD l2 (Int.toNat x0) zz3)) - Prod.fst (Prod.snd (List.getD l2 (Int.toNat (IntKind.wrap .i64 (x0 + (1 : Int)))) zz3))) < (-1 : Int)))
 (some [(.int .i64 (x0))])
 (lp k spec_l05First [] fu 2 n (qo5 (IntKind.wrap .i64 (x0 + (1 : Int))) z1 l2 x3))))
 (none))
 (none))
 (some [(.int .i64 ((-1 : Int)))]) := by kernel_rfl
def qop (x0 x1 : Int) (z2 : Bool) (l3 : List (Int × Int × Int)) (x4 : Int) : St := ⟨fill 29 [(1, (.ptr 1 (0) (0))), (7, (.int .i64 (x0))), (8, (.int .i64 (x1)))], [], [(.arr false (z2) (.r3 (l3))), (.box true [(.int .i64 (x4)), (.sl 0 none)])]⟩
theorem qf2 (k : Nat) (a0 : Int) (a1z : Bool) (a1 : List (Int × Int × Int)) : go (k + 1) impl_Mesh_unbalanced [(.agg [(.int .i64 (a0)), (.arr false (a1z) (.r3 (a1)))])] =
 lp k impl_Mesh_unbalanced [] [] 2 k (qop (IntKind.wrap .i64 (nI (List.length a1) - (1 : Int))) (0 : Int) a1z a1 a0) := by kernel_rfl
theorem qj8 (k n : Nat) (fu : List (Nat × Nat)) (x0 x1 : Int) (z2 : Bool) (l3 : List (Int × Int × Int)) (x4 : Int) : lp k impl_Mesh_unbalanced [] fu 2 (n + 1) (qop x0 x1 z2 l3 x4) =
 cond (decide (x1 < x0))
 (cond (decide ((0 : Int) ≤ x1) && decide (x1 < nI (List.length l3)))
 (cond (decide ((0 : Int) ≤ IntKind.wrap .i64 (x1 + (1 : Int))) && decide (IntKind.wrap .i64 (x1 + (1 : Int)) < nI (List.length l3)))
 ((go k impl_absolute [(.int .i64 (IntKind.wrap .i64 (Prod.fst (Prod.snd (List.getD l3 (Int.toNat x1) zz3)) - Prod.fst (Prod.snd (List.getD l3 (Int.toNat (IntKind.wrap .i64 (x1 + (1 : Int)))) zz3)))))]).bind fun r0 =>
 cond (decide ((1 : Int) < D.toInt (nth r0 0)))
 (some [(.int .i64 (x1))])
 (lp k impl_Mesh_unbalanced [] fu 2 n (qop x0 (IntKind.wrap .i64 (x1 + (1 : Int))) z2 l3 x4)))
 (none))
 (none))
 (some [(.int .i64 ((-1 : Int)))]) := by kernel_rfl
theorem qgd (k : Nat) (a : Int) : go (k + 1) impl_absolute [(.int .i64 (a))] =
 some [(.int .i64 (if IntKind.wrap .i64 ((0 : Int) - a) > a then IntKind.wrap .i64 ((0 : Int) - a) else a))] := by kernel_rfl
theorem qg3 (k : Nat) (a0 : Int) (a1z : Bool) (a1 : List (Int × Int × Int)) : go (k + 1) spec_IsBalanced [(.agg [(.int .i64 (a0)), (.arr false (a1z) (.r3 (a1)))])] =
 (go k spec_MeshOk [(.agg [(.int .i64 (a0)), (.arr false (a1z) (.r3 (a1)))])]).bind fun r0 =>
 cond (bit (nth r0 0))
 ((go k spec_l05First [(.agg [(.int .i64 (a0)), (.arr false (a1z) (.r3 (a1)))])]).bind fun r1 =>
 some [(.bool (decide (D.toInt (nth r1 0) < (0 : Int))))])
 (some [(.bool (false))]) := by kernel_rfl
theorem qfz (k : Nat) (a0 : Int) (a1z : Bool) (a1 : List (Int × Int × Int)) : go (k + 1) impl_IsBalanced [(.agg [(.int .i64 (a0)), (.arr false (a1z) (.r3 (a1)))])] =
 (go k impl_MeshOk [(.agg [(.int .i64 (a0)), (.arr false (a1z) (.r3 (a1)))])]).bind fun r0 =>
 cond (bit (nth r0 0))
 ((go k impl_Mesh_unbalanced [(.agg [(.int .i64 (a0)), (.arr false (a1z) (.r3 (a1)))])]).bind fun r1 =>
 some [(.bool (decide (D.toInt (nth r1 0) < (0 : Int))))])
 (some [(.bool (false))]) := by kernel_rfl
end Go.Proofs.YtjfjniebmdafeaaGreatDoor
end
section
namespace Go.Proofs.YtjfjniebmdafeaaGreatDoor
open Go.Ev
theorem qr4 {x : Int} (h : -9223372036854775808 ≤ x) (h' : x ≤ 9223372036854775807) : IntKind.wrap .i64 x = x := by rw [IntKind.wrap_i64]; omega
theorem qr5 {x : Int} (h : 0 ≤ x) (h' : x ≤ 9223372036854775807) : IntKind.wrap .u64 x = x := by rw [IntKind.wrap_u64]; omega
theorem qr3 {x : Int} (h : 0 ≤ x) (h' : x ≤ 255) : IntKind.wrap .u8 x = x := by rw [IntKind.wrap_u8]; omega
theorem nth0 (d0 : D) (l : List D) : nth (d0 :: l) 0 = d0 := Eq.trans rfl rfl
theorem nth1 (d0 d1 : D) (l : List D) : nth (d0 :: d1 :: l) 1 = d1 := Eq.trans rfl rfl
theorem nth2 (d0 d1 d2 : D) (l : List D) : nth (d0 :: d1 :: d2 :: l) 2 = d2 := Eq.trans rfl rfl
theorem nth3 (d0 d1 d2 d3 : D) (l : List D) : nth (d0 :: d1 :: d2 :: d3 :: l) 3 = d3 := Eq.trans rfl rfl
theorem qef (d0 : D) (l : List D) : (D.agg (d0 :: l)).cell 0 = d0 := Eq.trans rfl rfl
theorem qeg (d0 d1 : D) (l : List D) : (D.agg (d0 :: d1 :: l)).cell 1 = d1 := Eq.trans rfl rfl
theorem qer (d0 d1 d2 : D) (l : List D) : (D.agg (d0 :: d1 :: d2 :: l)).cell 2 = d2 := Eq.trans rfl rfl
theorem qew (d0 d1 d2 d3 : D) (l : List D) : (D.agg (d0 :: d1 :: d2 :: d3 :: l)).cell 3 = d3 := Eq.trans rfl rfl
theorem qex (d0 d1 d2 d3 d4 : D) (l : List D) : (D.agg (d0 :: d1 :: d2 :: d3 :: d4 :: l)).cell 4 = d4 := Eq.trans rfl rfl
theorem qey (d0 d1 d2 d3 d4 d5 : D) (l : List D) : (D.agg (d0 :: d1 :: d2 :: d3 :: d4 :: d5 :: l)).cell 5 = d5 := Eq.trans rfl rfl
theorem qez (d0 d1 d2 d3 d4 d5 d6 : D) (l : List D) : (D.agg (d0 :: d1 :: d2 :: d3 :: d4 :: d5 :: d6 :: l)).cell 6 = d6 := Eq.trans rfl rfl
theorem qe0 (d0 d1 d2 d3 d4 d5 d6 d7 : D) (l : List D) : (D.agg (d0 :: d1 :: d2 :: d3 :: d4 :: d5 :: d6 :: d7 :: l)).cell 7 = d7 := Eq.trans rfl rfl
theorem qe1 (d0 d1 d2 d3 d4 d5 d6 d7 d8 : D) (l : List D) : (D.agg (d0 :: d1 :: d2 :: d3 :: d4 :: d5 :: d6 :: d7 :: d8 :: l)).cell 8 = d8 := Eq.trans rfl rfl
theorem qe2 (d0 d1 d2 d3 d4 d5 d6 d7 d8 d9 : D) (l : List D) : (D.agg (d0 :: d1 :: d2 :: d3 :: d4 :: d5 :: d6 :: d7 :: d8 :: d9 :: l)).cell 9 = d9 := Eq.trans rfl rfl
theorem qeh (d0 d1 d2 d3 d4 d5 d6 d7 d8 d9 d10 : D) (l : List D) : (D.agg (d0 :: d1 :: d2 :: d3 :: d4 :: d5 :: d6 :: d7 :: d8 :: d9 :: d10 :: l)).cell 10 = d10 := Eq.trans rfl rfl
theorem qei (d0 d1 d2 d3 d4 d5 d6 d7 d8 d9 d10 d11 : D) (l : List D) : (D.agg (d0 :: d1 :: d2 :: d3 :: d4 :: d5 :: d6 :: d7 :: d8 :: d9 :: d10 :: d11 :: l)).cell 11 = d11 := Eq.trans rfl rfl
theorem qej (d0 d1 d2 d3 d4 d5 d6 d7 d8 d9 d10 d11 d12 : D) (l : List D) : (D.agg (d0 :: d1 :: d2 :: d3 :: d4 :: d5 :: d6 :: d7 :: d8 :: d9 :: d10 :: d11 :: d12 :: l)).cell 12 = d12 := Eq.trans rfl rfl
theorem qek (d0 d1 d2 d3 d4 d5 d6 d7 d8 d9 d10 d11 d12 d13 : D) (l : List D) : (D.agg (d0 :: d1 :: d2 :: d3 :: d4 :: d5 :: d6 :: d7 :: d8 :: d9 :: d10 :: d11 :: d12 :: d13 :: l)).cell 13 = d13 := Eq.trans rfl rfl
theorem qel (d0 d1 d2 d3 d4 d5 d6 d7 d8 d9 d10 d11 d12 d13 d14 : D) (l : List D) : (D.agg (d0 :: d1 :: d2 :: d3 :: d4 :: d5 :: d6 :: d7 :: d8 :: d9 :: d10 :: d11 :: d12 :: d13 :: d14 :: l)).cell 14 = d14 := Eq.trans rfl rfl
theorem qem (d0 d1 d2 d3 d4 d5 d6 d7 d8 d9 d10 d11 d12 d13 d14 d15 : D) (l : List D) : (D.agg (d0 :: d1 :: d2 :: d3 :: d4 :: d5 :: d6 :: d7 :: d8 :: d9 :: d10 :: d11 :: d12 :: d13 :: d14 :: d15 :: l)).cell 15 = d15 := Eq.trans rfl rfl
theorem qen (d0 d1 d2 d3 d4 d5 d6 d7 d8 d9 d10 d11 d12 d13 d14 d15 d16 : D) (l : List D) : (D.agg (d0 :: d1 :: d2 :: d3 :: d4 :: d5 :: d6 :: d7 :: d8 :: d9 :: d10 :: d11 :: d12 :: d13 :: d14 :: d15 :: d16 :: l)).cell 16 = d16 := Eq.trans rfl rfl
theorem qeo (d0 d1 d2 d3 d4 d5 d6 d7 d8 d9 d10 d11 d12 d13 d14 d15 d16 d17 : D) (l : List D) : (D.agg (d0 :: d1 :: d2 :: d3 :: d4 :: d5 :: d6 :: d7 :: d8 :: d9 :: d10 :: d11 :: d12 :: d13 :: d14 :: d15 :: d16 :: d17 :: l)).cell 17 = d17 := Eq.trans rfl rfl
theorem qep (d0 d1 d2 d3 d4 d5 d6 d7 d8 d9 d10 d11 d12 d13 d14 d15 d16 d17 d18 : D) (l : List D) : (D.agg (d0 :: d1 :: d2 :: d3 :: d4 :: d5 :: d6 :: d7 :: d8 :: d9 :: d10 :: d11 :: d12 :: d13 :: d14 :: d15 :: d16 :: d17 :: d18 :: l)).cell 18 = d18 := Eq.trans rfl rfl
theorem qeq (d0 d1 d2 d3 d4 d5 d6 d7 d8 d9 d10 d11 d12 d13 d14 d15 d16 d17 d18 d19 : D) (l : List D) : (D.agg (d0 :: d1 :: d2 :: d3 :: d4 :: d5 :: d6 :: d7 :: d8 :: d9 :: d10 :: d11 :: d12 :: d13 :: d14 :: d15 :: d16 :: d17 :: d18 :: d19 :: l)).cell 19 = d19 := Eq.trans rfl rfl
theorem qes (d0 d1 d2 d3 d4 d5 d6 d7 d8 d9 d10 d11 d12 d13 d14 d15 d16 d17 d18 d19 d20 : D) (l : List D) : (D.agg (d0 :: d1 :: d2 :: d3 :: d4 :: d5 :: d6 :: d7 :: d8 :: d9 :: d10 :: d11 :: d12 :: d13 :: d14 :: d15 :: d16 :: d17 :: d18 :: d19 :: d20 :: l)).cell 20 = d20 := Eq.trans rfl rfl
theorem qet (d0 d1 d2 d3 d4 d5 d6 d7 d8 d9 d10 d11 d12 d13 d14 d15 d16 d17 d18 d19 d20 d21 : D) (l : List D) : (D.agg (d0 :: d1 :: d2 :: d3 :: d4 :: d5 :: d6 :: d7 :: d8 :: d9 :: d10 :: d11 :: d12 :: d13 :: d14 :: d15 :: d16 :: d17 :: d18 :: d19 :: d20 :: d21 :: l)).cell 21 = d21 := Eq.trans rfl rfl
theorem qeu (d0 d1 d2 d3 d4 d5 d6 d7 d8 d9 d10 d11 d12 d13 d14 d15 d16 d17 d18 d19 d20 d21 d22 : D) (l : List D) : (D.agg (d0 :: d1 :: d2 :: d3 :: d4 :: d5 :: d6 :: d7 :: d8 :: d9 :: d10 :: d11 :: d12 :: d13 :: d14 :: d15 :: d16 :: d17 :: d18 :: d19 :: d20 :: d21 :: d22 :: l)).cell 22 = d22 := Eq.trans rfl rfl
theorem qev (d0 d1 d2 d3 d4 d5 d6 d7 d8 d9 d10 d11 d12 d13 d14 d15 d16 d17 d18 d19 d20 d21 d22 d23 : D) (l : List D) : (D.agg (d0 :: d1 :: d2 :: d3 :: d4 :: d5 :: d6 :: d7 :: d8 :: d9 :: d10 :: d11 :: d12 :: d13 :: d14 :: d15 :: d16 :: d17 :: d18 :: d19 :: d20 :: d21 :: d22 :: d23 :: l)).cell 23 = d23 := Eq.trans rfl rfl
theorem qrf (k : IntKind) (n : Int) : (D.int k n).toInt = n := Eq.trans rfl rfl
theorem qre (b : Bool) : (D.bool b).toBool = b := Eq.trans rfl rfl
theorem qrg (s : ByteArray) : (D.str s).toStr = s := Eq.trans rfl rfl
theorem qnd (o n : Bool) (a : Arr) : (D.arr o n a).nil = n := Eq.trans rfl rfl
theorem qn3 (o n : Bool) (l : List (Int × Int × Int)) : (D.arr o n (.r3 l)).r3 = l := Eq.trans rfl rfl
theorem qn5 (o n : Bool) (l : List (Int × Int × Int × Int)) : (D.arr o n (.r4 l)).r4 = l := Eq.trans rfl rfl
theorem qjh (o n : Bool) (k : IntKind) (l : List Int) : (D.arr o n (.ints k l)).ints = l := Eq.trans rfl rfl
theorem qa5 (o n : Bool) (l : List Bool) : (D.arr o n (.bools l)).bools = l := Eq.trans rfl rfl
theorem qqo (o n : Bool) (l : List ByteArray) : (D.arr o n (.strs l)).strs = l := Eq.trans rfl rfl
theorem qfb {α : Type} (x y : α) : cond true x y = x := Eq.trans rfl rfl
theorem qe9 {α : Type} (x y : α) : cond false x y = y := Eq.trans rfl rfl
theorem qay {α : Type} (x : List D) (f : List D → Option α) : (some x).bind f = f x := Eq.trans rfl rfl
theorem dT {p : Prop} {i : Decidable p} (h : p) : @decide p i = true := by cases i <;> simp_all
theorem dF {p : Prop} {i : Decidable p} (h : ¬p) : @decide p i = false := by cases i <;> simp_all
theorem qed (i : Nat) : (i : Int) + 1 = ((i + 1 : Nat) : Int) := Eq.trans rfl rfl
theorem qee (i : Nat) : (i : Int) + 2 = ((i + 2 : Nat) : Int) := Eq.trans rfl rfl
theorem qec {i : Nat} (h : 1 ≤ i) : (i : Int) - 1 = ((i - 1 : Nat) : Int) := by omega
theorem itT {α : Type} {i : Decidable True} (x y : α) : @ite α True i x y = x := by cases i with | isTrue _ => rfl | isFalse h => exact absurd trivial h
theorem itF {α : Type} {i : Decidable False} (x y : α) : @ite α False i x y = y := by cases i with | isTrue h => exact h.elim | isFalse _ => rfl
theorem niF {α : Type} {a b : Nat} {i : Decidable (a = b)} {x y : α} (h : ¬ a = b) : @ite α (a = b) i x y = y := by cases i with | isTrue e => exact absurd e h | isFalse _ => rfl
theorem imax (x y : Int) : (if x > y then x else y) = max x y := by by_cases h : x > y <;> simp only [h, if_true, if_false] <;> omega
theorem imin (x y : Int) : (if x < y then x else y) = min x y := by by_cases h : x < y <;> simp only [h, if_true, if_false] <;> omega
theorem qfc (b x : Bool) : cond (!b) (some [D.bool false]) (some [D.bool x]) = some [D.bool (b && x)] := by cases b <;> rfl
theorem qfd (b x : Bool) : cond b (some [D.bool x]) (some [D.bool false]) = some [D.bool (b && x)] := by cases b <;> rfl
theorem dTT {i : Decidable True} : @decide True i = true := by cases i with | isTrue _ => rfl | isFalse h => exact absurd trivial h
theorem dFF {i : Decidable False} : @decide False i = false := by cases i with | isTrue h => exact h.elim | isFalse _ => rfl
theorem bigI : ((bigLen : Nat) : Int) = 1099511627776 := Eq.trans rfl rfl
theorem qnc {α : Type} (l : List α) : [] ++ l = l := Eq.trans rfl rfl
theorem big0 : bigLen = 1099511627776 := Eq.trans rfl rfl
theorem qfo {α : Type} {l : List α} {i : Nat} (h : i < l.length) (d : α) : l.drop i = l.getD i d :: l.drop (i + 1) := by
  rw [List.drop_eq_getElem_cons h]; simp [h]
theorem qpl {α : Type} (l : List α) (i j : Nat) (x d : α) : (l.set i x).getD j d = if i = j ∧ i < l.length then x else l.getD j d := by
  simp only [List.getD_eq_getElem?_getD, List.getElem?_set]
  by_cases h : i = j
  · subst h
    by_cases h2 : i < l.length
    · simp [h2]
    · simp [h2]
  · simp [h]
theorem qi9 {α : Type} {l : List α} {i : Nat} (h : l.length ≤ i) (d : α) : l.getD i d = d := by simp [h]
theorem qja {α : Type} {l : List α} {i : Nat} (h : i < l.length) (d : α) : l.getD i d ∈ l := by simp [h]
end Go.Proofs.YtjfjniebmdafeaaGreatDoor
end
section
namespace Go.Proofs.YtjfjniebmdafeaaGreatDoor
open Go.Ev
def inR (a b c : Int) : Bool := decide (b ≤ a) && decide (a ≤ c)
theorem qjf {a b c : Int} : inR a b c = true ↔ b ≤ a ∧ a ≤ c := by simp [inR]
theorem qda (k : Nat) (hk : 2000000 ≤ k) (a : Int) (b : Int) (c : Int) : go (k + 1) spec_l01In [(.int .i64 (a)), (.int .i64 (b)), (.int .i64 (c))] = some [.bool (inR a b c)] := by
  rw [qhn]; unfold inR; cases decide (b ≤ a) <;> rfl
theorem qb7 (k : Nat) (hk : 2000000 ≤ k) (a : Int) (b : Int) (c : Int) : go (k + 1) impl_within [(.int .i64 (a)), (.int .i64 (b)), (.int .i64 (c))] = some [.bool (inR a b c)] := by
  rw [qgn]; unfold inR; cases decide (b ≤ a) <;> rfl
def pow2 (l : Int) : Int := 2 ^ l.toNat
def idOk (r l i : Int) : Bool := inR r 0 7 && (inR l 0 4 && (decide (0 ≤ i) && decide (i < pow2 l)))
theorem lev {l : Int} (h : inR l 0 4 = true) : l = 0 ∨ l = 1 ∨ l = 2 ∨ l = 3 ∨ l = 4 := by
  simp only [inR, Bool.and_eq_true, decide_eq_true_eq] at h; omega
theorem p20 : pow2 0 = 1 := rfl
theorem p21 : pow2 1 = 2 := rfl
theorem p22 : pow2 2 = 4 := rfl
theorem p23 : pow2 3 = 8 := rfl
theorem p24 : pow2 4 = 16 := rfl
theorem sh0 : shiftN .i64 0 = 0 := by decide
theorem sh1 : shiftN .i64 1 = 1 := by decide
theorem sh2 : shiftN .i64 2 = 2 := by decide
theorem sh3 : shiftN .i64 3 = 3 := by decide
theorem sh4 : shiftN .i64 4 = 4 := by decide
theorem pw {l : Int} (h : inR l 0 4 = true) : IntKind.wrap .i64 ((1 : Int) * (2 : Int) ^ shiftN .i64 l) = pow2 l := by
  rcases lev h with rfl | rfl | rfl | rfl | rfl <;> simp [sh0, sh1, sh2, sh3, sh4, qr4, p20, p21, p22, p23, p24]
theorem lev0 {l : Int} (h : inR l 0 4 = true) : 0 ≤ l ∧ l ≤ 4 := by
  simp only [inR, Bool.and_eq_true, decide_eq_true_eq] at h; omega
theorem qnz {l : Int} (h : inR l 0 4 = true) : 1 ≤ pow2 l ∧ pow2 l ≤ 16 := by
  rcases lev h with rfl | rfl | rfl | rfl | rfl <;> simp [p20, p21, p22, p23, p24]
theorem qck (k : Nat) (hk : 2000000 ≤ k) (a0 : Int) (a1 : Int) (a2 : Int) : go (k + 2) spec_IdOk [(.agg [(.int .i64 (a0)), (.int .i64 (a1)), (.int .i64 (a2))])] = some [.bool (idOk a0 a1 a2)] := by
  rw [qg1]
  simp (disch := omega) only [qay, nth0, nth1, nth2, nth3, bit, qef, qeg, qer, qew, qex, qey, qez, qe0, qe1, qe2, qeh, qei, qej, qek, qel, qem, qen, qeo, qep, qeq, qes, qet, qeu, qev, qrf, qre, qrg, qnd, qn3, qn5, qjh, qa5, qqo, nI, qfb, qe9, Bool.not_true, Bool.not_false, Bool.and_true, Bool.true_and, Bool.and_false, Bool.false_and, Bool.or_true, Bool.true_or, Bool.or_false, Bool.false_or, beq_self_eq_true, dTT, dFF, dT, dF, bigI, big0, qnc, qr4, qr5, List.length_set, List.length_replicate, Int.toNat_natCast, qed, qee, imax, imin, qda]
  unfold idOk
  cases h1 : inR a0 0 7 <;> cases h2 : inR a1 0 4 <;> simp only [qfb, qe9, Bool.true_and, Bool.false_and, Bool.and_false]
  have := lev0 h2
  rw [qr5 (x := a1) (by omega) (by omega), pw h2]
  by_cases h3 : (0 : Int) ≤ a2
  · simp [h3, this.1]
  · simp [h3]
theorem qby (k : Nat) (hk : 2000000 ≤ k) (a : Int) : go (k + 2) impl_isLevel [(.int .i64 (a))] = some [.bool (inR a 0 4)] := by
  rw [qgh]
  simp (disch := omega) only [qay, nth0, nth1, nth2, nth3, bit, qef, qeg, qer, qew, qex, qey, qez, qe0, qe1, qe2, qeh, qei, qej, qek, qel, qem, qen, qeo, qep, qeq, qes, qet, qeu, qev, qrf, qre, qrg, qnd, qn3, qn5, qjh, qa5, qqo, nI, qfb, qe9, Bool.not_true, Bool.not_false, Bool.and_true, Bool.true_and, Bool.and_false, Bool.false_and, Bool.or_true, Bool.true_or, Bool.or_false, Bool.false_or, beq_self_eq_true, dTT, dFF, dT, dF, bigI, big0, qnc, qr4, qr5, List.length_set, List.length_replicate, Int.toNat_natCast, qed, qee, imax, imin, qb7]
theorem qbg (k : Nat) (hk : 2000000 ≤ k) (a0 : Int) (a1 : Int) (a2 : Int) : go (k + 3) impl_IdOk [(.agg [(.int .i64 (a0)), (.int .i64 (a1)), (.int .i64 (a2))])] = some [.bool (idOk a0 a1 a2)] := by
  rw [qfx]
  simp (disch := omega) only [qay, nth0, nth1, nth2, nth3, bit, qef, qeg, qer, qew, qex, qey, qez, qe0, qe1, qe2, qeh, qei, qej, qek, qel, qem, qen, qeo, qep, qeq, qes, qet, qeu, qev, qrf, qre, qrg, qnd, qn3, qn5, qjh, qa5, qqo, nI, qfb, qe9, Bool.not_true, Bool.not_false, Bool.and_true, Bool.true_and, Bool.and_false, Bool.false_and, Bool.or_true, Bool.true_or, Bool.or_false, Bool.false_or, beq_self_eq_true, dTT, dFF, dT, dF, bigI, big0, qnc, qr4, qr5, List.length_set, List.length_replicate, Int.toNat_natCast, qed, qee, imax, imin, qb7, qby]
  unfold idOk
  cases h1 : inR a0 0 7 <;> cases h2 : inR a1 0 4 <;> simp only [qfb, qe9, Bool.true_and, Bool.false_and, Bool.and_false]
  have := lev0 h2
  have := qnz h2
  rw [pw h2, qr4 (x := pow2 a1 - 1) (by omega) (by omega)]
  rw [show decide ((0 : Int) ≤ a1) = true by simp; omega, qfb]
  have e : inR a2 0 (pow2 a1 - 1) = (decide (0 ≤ a2) && decide (a2 < pow2 a1)) := by
    unfold inR; rw [Bool.eq_iff_iff]; simp only [Bool.and_eq_true, decide_eq_true_eq]; omega
  rw [e]
def qrw (l : Int) : Int := if inR l 0 4 then 16 / pow2 l else 0
theorem qc0 (k : Nat) (hk : 2000000 ≤ k) (a : Int) : go (k + 2) spec_WidthOf [(.int .i64 (a))] = some [.int .i64 (qrw a)] := by
  rw [qhh]
  simp (disch := omega) only [qay, nth0, nth1, nth2, nth3, bit, qef, qeg, qer, qew, qex, qey, qez, qe0, qe1, qe2, qeh, qei, qej, qek, qel, qem, qen, qeo, qep, qeq, qes, qet, qeu, qev, qrf, qre, qrg, qnd, qn3, qn5, qjh, qa5, qqo, nI, qfb, qe9, Bool.not_true, Bool.not_false, Bool.and_true, Bool.true_and, Bool.and_false, Bool.false_and, Bool.or_true, Bool.true_or, Bool.or_false, Bool.false_or, beq_self_eq_true, dTT, dFF, dT, dF, bigI, big0, qnc, qr4, qr5, List.length_set, List.length_replicate, Int.toNat_natCast, qed, qee, imax, imin, qda, qrw]
  cases h2 : inR a 0 4
  · simp
  · rcases lev h2 with rfl | rfl | rfl | rfl | rfl <;> simp [qr5, sh0, sh1, sh2, sh3, sh4, p20, p21, p22, p23, p24] <;> decide
theorem qbp (k : Nat) (hk : 2000000 ≤ k) (a : Int) : go (k + 3) impl_WidthOf [(.int .i64 (a))] = some [.int .i64 (qrw a)] := by
  rw [qga]
  simp (disch := omega) only [qay, nth0, nth1, nth2, nth3, bit, qef, qeg, qer, qew, qex, qey, qez, qe0, qe1, qe2, qeh, qei, qej, qek, qel, qem, qen, qeo, qep, qeq, qes, qet, qeu, qev, qrf, qre, qrg, qnd, qn3, qn5, qjh, qa5, qqo, nI, qfb, qe9, Bool.not_true, Bool.not_false, Bool.and_true, Bool.true_and, Bool.and_false, Bool.false_and, Bool.or_true, Bool.true_or, Bool.or_false, Bool.false_or, beq_self_eq_true, dTT, dFF, dT, dF, bigI, big0, qnc, qr4, qr5, List.length_set, List.length_replicate, Int.toNat_natCast, qed, qee, imax, imin, qby, qrw]
  cases h2 : inR a 0 4
  · simp
  · rcases lev h2 with rfl | rfl | rfl | rfl | rfl <;> simp [qr5, sh0, sh1, sh2, sh3, sh4, p20, p21, p22, p23, p24] <;> decide
def qqc (r l i : Int) : Int := if idOk r l i then r * 16 + i * qrw l else -1
theorem qry (l : Int) : 0 ≤ qrw l ∧ qrw l ≤ 16 := by
  unfold qrw
  cases h : inR l 0 4
  · simp
  · rcases lev h with rfl | rfl | rfl | rfl | rfl <;> decide
theorem qjc {r l i : Int} (h : idOk r l i = true) : 0 ≤ r ∧ r ≤ 7 ∧ inR l 0 4 = true ∧ 0 ≤ i ∧ i < pow2 l := by
  simp only [idOk, Bool.and_eq_true, decide_eq_true_eq] at h
  obtain ⟨h1, h2, h3, h4⟩ := h
  simp only [inR, Bool.and_eq_true, decide_eq_true_eq] at h1
  exact ⟨h1.1, h1.2, h2, h3, h4⟩
theorem iw {r l i : Int} (h : idOk r l i = true) : 0 ≤ i * qrw l ∧ i * qrw l ≤ 256 := by
  obtain ⟨_, _, h2, h3, h4⟩ := qjc h
  have h5 := (qnz h2).2
  have h6 := qry l
  have h7 : i ≤ 16 := by omega
  refine ⟨Int.mul_nonneg h3 h6.1, ?_⟩
  calc i * qrw l ≤ 16 * qrw l := Int.mul_le_mul_of_nonneg_right h7 h6.1
    _ ≤ 16 * 16 := Int.mul_le_mul_of_nonneg_left h6.2 (by omega)
theorem qqd (r l i : Int) : -1 ≤ qqc r l i ∧ qqc r l i ≤ 1000 := by
  unfold qqc
  cases h : idOk r l i
  · simp
  · have := iw h; have := qjc h
    simp; omega
theorem qqf {r l i : Int} (h : idOk r l i = true) : IntKind.wrap .i64 (IntKind.wrap .i64 (r * (16 : Int)) + IntKind.wrap .i64 (i * qrw l)) = qqc r l i := by
  have h1 := iw h; have h2 := qjc h
  rw [qr4 (x := r * 16) (by omega) (by omega), qr4 (x := i * qrw l) (by omega) (by omega), qr4 (by omega) (by omega)]
  simp [qqc, h]
theorem qcx (k : Nat) (hk : 2000000 ≤ k) (a0 : Int) (a1 : Int) (a2 : Int) : go (k + 3) spec_StartOf [(.agg [(.int .i64 (a0)), (.int .i64 (a1)), (.int .i64 (a2))])] = some [.int .i64 (qqc a0 a1 a2)] := by
  rw [qhe]
  simp (disch := omega) only [qay, nth0, nth1, nth2, nth3, bit, qef, qeg, qer, qew, qex, qey, qez, qe0, qe1, qe2, qeh, qei, qej, qek, qel, qem, qen, qeo, qep, qeq, qes, qet, qeu, qev, qrf, qre, qrg, qnd, qn3, qn5, qjh, qa5, qqo, nI, qfb, qe9, Bool.not_true, Bool.not_false, Bool.and_true, Bool.true_and, Bool.and_false, Bool.false_and, Bool.or_true, Bool.true_or, Bool.or_false, Bool.false_or, beq_self_eq_true, dTT, dFF, dT, dF, bigI, big0, qnc, qr4, qr5, List.length_set, List.length_replicate, Int.toNat_natCast, qed, qee, imax, imin, qck, qc0]
  cases h : idOk a0 a1 a2
  · simp [qqc, h]
  · rw [qqf h]; rfl
theorem qbm (k : Nat) (hk : 2000000 ≤ k) (a0 : Int) (a1 : Int) (a2 : Int) : go (k + 4) impl_StartOf [(.agg [(.int .i64 (a0)), (.int .i64 (a1)), (.int .i64 (a2))])] = some [.int .i64 (qqc a0 a1 a2)] := by
  rw [qf4]
  simp (disch := omega) only [qay, nth0, nth1, nth2, nth3, bit, qef, qeg, qer, qew, qex, qey, qez, qe0, qe1, qe2, qeh, qei, qej, qek, qel, qem, qen, qeo, qep, qeq, qes, qet, qeu, qev, qrf, qre, qrg, qnd, qn3, qn5, qjh, qa5, qqo, nI, qfb, qe9, Bool.not_true, Bool.not_false, Bool.and_true, Bool.true_and, Bool.and_false, Bool.false_and, Bool.or_true, Bool.true_or, Bool.or_false, Bool.false_or, beq_self_eq_true, dTT, dFF, dT, dF, bigI, big0, qnc, qr4, qr5, List.length_set, List.length_replicate, Int.toNat_natCast, qed, qee, imax, imin, qbg, qbp]
  cases h : idOk a0 a1 a2
  · simp [qqc, h]
  · rw [qqf h]; rfl
theorem qir (r l i : Int) : IntKind.wrap .i64 (qqc r l i + qrw l) = qqc r l i + qrw l := by
  have h1 := qqd r l i; have h2 := qry l
  exact qr4 (by omega) (by omega)
theorem qdd (k : Nat) (hk : 2000000 ≤ k) (a0 : Int) (a1 : Int) (a2 : Int) : go (k + 4) spec_l04End [(.agg [(.int .i64 (a0)), (.int .i64 (a1)), (.int .i64 (a2))])] = some [.int .i64 (qqc a0 a1 a2 + qrw a1)] := by
  rw [qhq]
  simp (disch := omega) only [qay, nth0, nth1, nth2, nth3, bit, qef, qeg, qer, qew, qex, qey, qez, qe0, qe1, qe2, qeh, qei, qej, qek, qel, qem, qen, qeo, qep, qeq, qes, qet, qeu, qev, qrf, qre, qrg, qnd, qn3, qn5, qjh, qa5, qqo, nI, qfb, qe9, Bool.not_true, Bool.not_false, Bool.and_true, Bool.true_and, Bool.and_false, Bool.false_and, Bool.or_true, Bool.true_or, Bool.or_false, Bool.false_or, beq_self_eq_true, dTT, dFF, dT, dF, bigI, big0, qnc, qr4, qr5, List.length_set, List.length_replicate, Int.toNat_natCast, qed, qee, imax, imin, qcx, qc0, qir]
theorem qbt (k : Nat) (hk : 2000000 ≤ k) (a0 : Int) (a1 : Int) (a2 : Int) : go (k + 5) impl_endOf [(.agg [(.int .i64 (a0)), (.int .i64 (a1)), (.int .i64 (a2))])] = some [.int .i64 (qqc a0 a1 a2 + qrw a1)] := by
  rw [qge]
  simp (disch := omega) only [qay, nth0, nth1, nth2, nth3, bit, qef, qeg, qer, qew, qex, qey, qez, qe0, qe1, qe2, qeh, qei, qej, qek, qel, qem, qen, qeo, qep, qeq, qes, qet, qeu, qev, qrf, qre, qrg, qnd, qn3, qn5, qjh, qa5, qqo, nI, qfb, qe9, Bool.not_true, Bool.not_false, Bool.and_true, Bool.true_and, Bool.and_false, Bool.false_and, Bool.or_true, Bool.true_or, Bool.or_false, Bool.false_or, beq_self_eq_true, dTT, dFF, dT, dF, bigI, big0, qnc, qr4, qr5, List.length_set, List.length_replicate, Int.toNat_natCast, qed, qee, imax, imin, qbm, qbp, qir]
abbrev Cell := Int × Int × Int
def qmx (roots : Int) : Int → List Cell → Bool
  | pos, [] => inR roots 1 8 && decide (pos = roots * 16)
  | pos, x :: rest => idOk x.1 x.2.1 x.2.2 && (decide (qqc x.1 x.2.1 x.2.2 = pos) && qmx roots (qqc x.1 x.2.1 x.2.2 + qrw x.2.1) rest)
theorem qm0 (roots pos : Int) : cond (inR roots 1 8) (some [D.bool (decide (pos = IntKind.wrap .i64 (roots * (16 : Int))))]) (some [D.bool false]) = some [D.bool (qmx roots pos [])] := by
  unfold qmx
  cases h : inR roots 1 8
  · rfl
  · simp only [inR, Bool.and_eq_true, decide_eq_true_eq] at h
    rw [qr4 (by omega) (by omega)]; rfl
theorem ql4 (k : Nat) (hk : 2000000 ≤ k) (fu : List (Nat × Nat)) (z : Bool) (l : List Cell) (roots : Int) (hl : (l.length : Int) ≤ 1048576) : ∀ (n i : Nat) (pos : Int), i ≤ l.length → l.length - i < n →
    lp (k + 4) spec_MeshOk [] fu 3 (n) (qo0 pos (i : Int) z l roots) = some [.bool (qmx roots pos (l.drop i))]
  | 0, i, pos, hi, hn => by omega
  | n + 1, i, pos, hi, hn => by
    rw [qkj]
    by_cases h : i < l.length
    · rw [qfo h zz3]
      simp (disch := omega) only [qay, nth0, nth1, nth2, nth3, bit, qef, qeg, qer, qew, qex, qey, qez, qe0, qe1, qe2, qeh, qei, qej, qek, qel, qem, qen, qeo, qep, qeq, qes, qet, qeu, qev, qrf, qre, qrg, qnd, qn3, qn5, qjh, qa5, qqo, nI, qfb, qe9, Bool.not_true, Bool.not_false, Bool.and_true, Bool.true_and, Bool.and_false, Bool.false_and, Bool.or_true, Bool.true_or, Bool.or_false, Bool.false_or, beq_self_eq_true, dTT, dFF, dT, dF, bigI, big0, qnc, qr4, qr5, List.length_set, List.length_replicate, Int.toNat_natCast, qed, qee, imax, imin, qck, qcx, qdd, qmx]
      rw [ql4 k hk fu z l roots hl n (i + 1) _ (by omega) (by omega)]
      simp only [qfc, qfd, Bool.and_assoc]
    · rw [List.drop_of_length_le (by omega)]
      simp (disch := omega) only [qay, nth0, nth1, nth2, nth3, bit, qef, qeg, qer, qew, qex, qey, qez, qe0, qe1, qe2, qeh, qei, qej, qek, qel, qem, qen, qeo, qep, qeq, qes, qet, qeu, qev, qrf, qre, qrg, qnd, qn3, qn5, qjh, qa5, qqo, nI, qfb, qe9, Bool.not_true, Bool.not_false, Bool.and_true, Bool.true_and, Bool.and_false, Bool.false_and, Bool.or_true, Bool.true_or, Bool.or_false, Bool.false_or, beq_self_eq_true, dTT, dFF, dT, dF, bigI, big0, qnc, qr4, qr5, List.length_set, List.length_replicate, Int.toNat_natCast, qed, qee, imax, imin, qda]
      exact qm0 roots pos
theorem qcs (k : Nat) (hk : 2000000 ≤ k) (a0 : Int) (a1z : Bool) (a1 : List (Int × Int × Int)) (hl : (a1.length : Int) ≤ 1048576) : go (k + 5) spec_MeshOk [(.agg [(.int .i64 (a0)), (.arr false (a1z) (.r3 (a1)))])] = some [.bool (qmx a0 0 a1)] := by
  rw [qg9]
  exact ql4 k hk _ _ a1 a0 hl _ 0 0 (by omega) (by omega)
theorem qlt (k : Nat) (hk : 2000000 ≤ k) (fu : List (Nat × Nat)) (z : Bool) (l : List Cell) (roots : Int) (hl : (l.length : Int) ≤ 1048576) : ∀ (n i : Nat) (pos : Int), i ≤ l.length → l.length - i < n →
    lp (k + 5) impl_MeshOk [] fu 3 (n) (qoo pos (l.length : Int) (i : Int) z l roots) = some [.bool (qmx roots pos (l.drop i))]
  | 0, i, pos, hi, hn => by omega
  | n + 1, i, pos, hi, hn => by
    rw [qj6]
    by_cases h : i < l.length
    · rw [qfo h zz3]
      simp (disch := omega) only [qay, nth0, nth1, nth2, nth3, bit, qef, qeg, qer, qew, qex, qey, qez, qe0, qe1, qe2, qeh, qei, qej, qek, qel, qem, qen, qeo, qep, qeq, qes, qet, qeu, qev, qrf, qre, qrg, qnd, qn3, qn5, qjh, qa5, qqo, nI, qfb, qe9, Bool.not_true, Bool.not_false, Bool.and_true, Bool.true_and, Bool.and_false, Bool.false_and, Bool.or_true, Bool.true_or, Bool.or_false, Bool.false_or, beq_self_eq_true, dTT, dFF, dT, dF, bigI, big0, qnc, qr4, qr5, List.length_set, List.length_replicate, Int.toNat_natCast, qed, qee, imax, imin, qbg, qbm, qbt, qmx]
      rw [qlt k hk fu z l roots hl n (i + 1) _ (by omega) (by omega)]
      simp only [qfc, qfd, Bool.and_assoc]
    · rw [List.drop_of_length_le (by omega)]
      simp (disch := omega) only [qay, nth0, nth1, nth2, nth3, bit, qef, qeg, qer, qew, qex, qey, qez, qe0, qe1, qe2, qeh, qei, qej, qek, qel, qem, qen, qeo, qep, qeq, qes, qet, qeu, qev, qrf, qre, qrg, qnd, qn3, qn5, qjh, qa5, qqo, nI, qfb, qe9, Bool.not_true, Bool.not_false, Bool.and_true, Bool.true_and, Bool.and_false, Bool.false_and, Bool.or_true, Bool.true_or, Bool.or_false, Bool.false_or, beq_self_eq_true, dTT, dFF, dT, dF, bigI, big0, qnc, qr4, qr5, List.length_set, List.length_replicate, Int.toNat_natCast, qed, qee, imax, imin, qb7]
      exact qm0 roots pos
theorem qbj (k : Nat) (hk : 2000000 ≤ k) (a0 : Int) (a1z : Bool) (a1 : List (Int × Int × Int)) (hl : (a1.length : Int) ≤ 1048576) : go (k + 6) impl_MeshOk [(.agg [(.int .i64 (a0)), (.arr false (a1z) (.r3 (a1)))])] = some [.bool (qmx a0 0 a1)] := by
  rw [qf0]
  exact qlt k hk _ _ a1 a0 hl _ 0 0 (by omega) (by omega)
theorem qi7 (r n : Nat) (fu : List (Nat × Nat)) : fuelOf ((r, n) :: fu) r = n := by simp [fuelOf, find]
end Go.Proofs.YtjfjniebmdafeaaGreatDoor
end
section
namespace Go.Proofs.YtjfjniebmdafeaaGreatDoor
open Go.Ev
def An1 : Ann := ⟨lookK keepL, lookM modeL, lookI inlL, fun _ => none, lookM giveL⟩
noncomputable def go1 (k f : Nat) (ds : List D) : Option (List D) := ev Tryz.prog An1 k f ds
noncomputable def lp1 (k f : Nat) (md : List D) (fu : List (Nat × Nat)) (tgt n : Nat) (s : St) : Option (List D) := loopAt Tryz.prog An1 k f md fu tgt n s
theorem qgo (k : Nat) (a b c : Int) : go1 (k + 1) impl_within [(.int .i64 (a)), (.int .i64 (b)), (.int .i64 (c))] =
 cond (decide (b ≤ a))
 (some [(.bool (decide (a ≤ c)))])
 (some [(.bool (false))]) := by kernel_rfl
theorem qgi (k : Nat) (a : Int) : go1 (k + 1) impl_isLevel [(.int .i64 (a))] =
 (go1 k impl_within [(.int .i64 (a)), (.int .i64 (0 : Int)), (.int .i64 ((4 : Int)))]).bind fun r0 =>
 some [(.bool (bit (nth r0 0)))] := by kernel_rfl
theorem qfy (k : Nat) (a0 a1 a2 : Int) : go1 (k + 1) impl_IdOk [(.agg [(.int .i64 (a0)), (.int .i64 (a1)), (.int .i64 (a2))])] =
 (go1 k impl_within [(.int .i64 (a0)), (.int .i64 (0 : Int)), (.int .i64 ((7 : Int)))]).bind fun r0 =>
 cond (bit (nth r0 0))
 ((go1 k impl_isLevel [(.int .i64 (a1))]).bind fun r1 =>
 cond (bit (nth r1 0))
 (cond (decide ((0 : Int) ≤ a1))
 ((go1 k impl_within [(.int .i64 (a2)), (.int .i64 (0 : Int)), (.int .i64 (IntKind.wrap .i64 (IntKind.wrap .i64 ((1 : Int) * (2 : Int) ^ shiftN .i64 a1) - (1 : Int))))]).bind fun r2 =>
 some [(.bool (bit (nth r2 0)))])
 (none))
 (some [(.bool (false))]))
 (some [(.bool (false))]) := by kernel_rfl
theorem qgb (k : Nat) (a : Int) : go1 (k + 1) impl_WidthOf [(.int .i64 (a))] =
 (go1 k impl_isLevel [(.int .i64 (a))]).bind fun r0 =>
 cond (!bit (nth r0 0))
 (some [(.int .i64 (0 : Int))])
 (cond (decide ((0 : Int) ≤ a))
 (some [(.int .i64 (Int.fdiv (16 : Int) ((2 : Int) ^ shiftN .i64 a)))])
 (none)) := by kernel_rfl
theorem qf5 (k : Nat) (a0 a1 a2 : Int) : go1 (k + 1) impl_StartOf [(.agg [(.int .i64 (a0)), (.int .i64 (a1)), (.int .i64 (a2))])] =
 (go1 k impl_IdOk [(.agg [(.int .i64 (a0)), (.int .i64 (a1)), (.int .i64 (a2))])]).bind fun r0 =>
 cond (!bit (nth r0 0))
 (some [(.int .i64 ((-1 : Int)))])
 ((go1 k impl_WidthOf [(.int .i64 (a1))]).bind fun r1 =>
 some [(.int .i64 (IntKind.wrap .i64 (IntKind.wrap .i64 (a0 * (16 : Int)) + IntKind.wrap .i64 (a2 * D.toInt (nth r1 0)))))]) := by kernel_rfl
theorem qgf (k : Nat) (a0 a1 a2 : Int) : go1 (k + 1) impl_endOf [(.agg [(.int .i64 (a0)), (.int .i64 (a1)), (.int .i64 (a2))])] =
 (go1 k impl_StartOf [(.agg [(.int .i64 (a0)), (.int .i64 (a1)), (.int .i64 (a2))])]).bind fun r0 =>
 (go1 k impl_WidthOf [(.int .i64 (a1))]).bind fun r1 =>
 some [(.int .i64 (IntKind.wrap .i64 (D.toInt (nth r0 0) + D.toInt (nth r1 0))))] := by kernel_rfl
theorem qf1 (k : Nat) (a0 : Int) (a1z : Bool) (a1 : List (Int × Int × Int)) : go1 (k + 1) impl_MeshOk [(.agg [(.int .i64 (a0)), (.arr false (a1z) (.r3 (a1)))])] =
 lp1 k impl_MeshOk [] [] 3 k (qoo (0 : Int) (nI (List.length a1)) (0 : Int) a1z a1 a0) := by kernel_rfl
theorem qj7 (k n : Nat) (fu : List (Nat × Nat)) (x0 x1 x2 : Int) (z3 : Bool) (l4 : List (Int × Int × Int)) (x5 : Int) : lp1 k impl_MeshOk [] fu 3 (n + 1) (qoo x0 x1 x2 z3 l4 x5) =
 cond (decide (x2 < x1))
 (cond (decide ((0 : Int) ≤ x2) && decide (x2 < nI (List.length l4)))
 ((go1 k impl_IdOk [(.agg [(.int .i64 (Prod.fst (List.getD l4 (Int.toNat x2) zz3))), (.int .i64 (Prod.fst (Prod.snd (List.getD l4 (Int.toNat x2) zz3)))), (.int .i64 (Prod.snd (Prod.snd (List.getD l4 (Int.toNat x2) zz3))))])]).bind fun r0 =>
 cond (!bit (nth r0 0))
 (some [(.bool (false))])
 ((go1 k impl_StartOf [(.agg [(.int .i64 (Prod.fst (List.getD l4 (Int.toNat x2) zz3))), (.int .i64 (Prod.fst (Prod.snd (List.getD l4 (Int.toNat x2) zz3)))), (.int .i64 (Prod.snd (Prod.snd (List.getD l4 (Int.toNat x2) zz3))))])]).bind fun r1 =>
 cond (!decide (D.toInt (nth r1 0) = x0))
 (some [(.bool (false))])
 ((go1 k impl_endOf [(.agg [(.int .i64 (Prod.fst (List.getD l4 (Int.toNat x2) zz3))), (.int .i64 (Prod.fst (Prod.snd (List.getD l4 (Int.toNat x2) zz3)))), (.int .i64 (Prod.snd (Prod.snd (List.getD l4 (Int.toNat x2) zz3))))])]).bind fun r2 =>
 lp1 k impl_MeshOk [] fu 3 n (qoo (D.toInt (nth r2 0)) x1 (IntKind.wrap .i64 (x2 + (1 : Int))) z3 l4 x5))))
 (none))
 ((go1 k impl_within [(.int .i64 (x5)), (.int .i64 ((1 : Int))), (.int .i64 ((8 : Int)))]).bind fun r3 =>
 cond (bit (nth r3 0))
 (some [(.bool (decide (x0 = IntKind.wrap .i64 (x5 * (16 : Int)))))])
 (some [(.bool (false))])) := by kernel_rfl
end Go.Proofs.YtjfjniebmdafeaaGreatDoor
end
section
namespace Go.Proofs.YtjfjniebmdafeaaGreatDoor
open Go.Ev
theorem qb8 (k : Nat) (hk : 2000000 ≤ k) (a : Int) (b : Int) (c : Int) : go1 (k + 1) impl_within [(.int .i64 (a)), (.int .i64 (b)), (.int .i64 (c))] = some [.bool (inR a b c)] := by
  rw [qgo]; unfold inR; cases decide (b ≤ a) <;> rfl
theorem qbz (k : Nat) (hk : 2000000 ≤ k) (a : Int) : go1 (k + 2) impl_isLevel [(.int .i64 (a))] = some [.bool (inR a 0 4)] := by
  rw [qgi]
  simp (disch := omega) only [qay, nth0, nth1, nth2, nth3, bit, qef, qeg, qer, qew, qex, qey, qez, qe0, qe1, qe2, qeh, qei, qej, qek, qel, qem, qen, qeo, qep, qeq, qes, qet, qeu, qev, qrf, qre, qrg, qnd, qn3, qn5, qjh, qa5, qqo, nI, qfb, qe9, Bool.not_true, Bool.not_false, Bool.and_true, Bool.true_and, Bool.and_false, Bool.false_and, Bool.or_true, Bool.true_or, Bool.or_false, Bool.false_or, beq_self_eq_true, dTT, dFF, dT, dF, bigI, big0, qnc, qr4, qr5, List.length_set, List.length_replicate, Int.toNat_natCast, qed, qee, imax, imin, qb8]
theorem qbh (k : Nat) (hk : 2000000 ≤ k) (a0 : Int) (a1 : Int) (a2 : Int) : go1 (k + 3) impl_IdOk [(.agg [(.int .i64 (a0)), (.int .i64 (a1)), (.int .i64 (a2))])] = some [.bool (idOk a0 a1 a2)] := by
  rw [qfy]
  simp (disch := omega) only [qay, nth0, nth1, nth2, nth3, bit, qef, qeg, qer, qew, qex, qey, qez, qe0, qe1, qe2, qeh, qei, qej, qek, qel, qem, qen, qeo, qep, qeq, qes, qet, qeu, qev, qrf, qre, qrg, qnd, qn3, qn5, qjh, qa5, qqo, nI, qfb, qe9, Bool.not_true, Bool.not_false, Bool.and_true, Bool.true_and, Bool.and_false, Bool.false_and, Bool.or_true, Bool.true_or, Bool.or_false, Bool.false_or, beq_self_eq_true, dTT, dFF, dT, dF, bigI, big0, qnc, qr4, qr5, List.length_set, List.length_replicate, Int.toNat_natCast, qed, qee, imax, imin, qb8, qbz]
  unfold idOk
  cases h1 : inR a0 0 7 <;> cases h2 : inR a1 0 4 <;> simp only [qfb, qe9, Bool.true_and, Bool.false_and, Bool.and_false]
  have := lev0 h2
  have := qnz h2
  rw [pw h2, qr4 (x := pow2 a1 - 1) (by omega) (by omega)]
  rw [show decide ((0 : Int) ≤ a1) = true by simp; omega, qfb]
  have e : inR a2 0 (pow2 a1 - 1) = (decide (0 ≤ a2) && decide (a2 < pow2 a1)) := by
    unfold inR; rw [Bool.eq_iff_iff]; simp only [Bool.and_eq_true, decide_eq_true_eq]; omega
  rw [e]
theorem qbq (k : Nat) (hk : 2000000 ≤ k) (a : Int) : go1 (k + 3) impl_WidthOf [(.int .i64 (a))] = some [.int .i64 (qrw a)] := by
  rw [qgb]
  simp (disch := omega) only [qay, nth0, nth1, nth2, nth3, bit, qef, qeg, qer, qew, qex, qey, qez, qe0, qe1, qe2, qeh, qei, qej, qek, qel, qem, qen, qeo, qep, qeq, qes, qet, qeu, qev, qrf, qre, qrg, qnd, qn3, qn5, qjh, qa5, qqo, nI, qfb, qe9, Bool.not_true, Bool.not_false, Bool.and_true, Bool.true_and, Bool.and_false, Bool.false_and, Bool.or_true, Bool.true_or, Bool.or_false, Bool.false_or, beq_self_eq_true, dTT, dFF, dT, dF, bigI, big0, qnc, qr4, qr5, List.length_set, List.length_replicate, Int.toNat_natCast, qed, qee, imax, imin, qbz, qrw]
  cases h2 : inR a 0 4
  · simp
  · rcases lev h2 with rfl | rfl | rfl | rfl | rfl <;> simp [qr5, sh0, sh1, sh2, sh3, sh4, p20, p21, p22, p23, p24] <;> decide
theorem qbn (k : Nat) (hk : 2000000 ≤ k) (a0 : Int) (a1 : Int) (a2 : Int) : go1 (k + 4) impl_StartOf [(.agg [(.int .i64 (a0)), (.int .i64 (a1)), (.int .i64 (a2))])] = some [.int .i64 (qqc a0 a1 a2)] := by
  rw [qf5]
  simp (disch := omega) only [qay, nth0, nth1, nth2, nth3, bit, qef, qeg, qer, qew, qex, qey, qez, qe0, qe1, qe2, qeh, qei, qej, qek, qel, qem, qen, qeo, qep, qeq, qes, qet, qeu, qev, qrf, qre, qrg, qnd, qn3, qn5, qjh, qa5, qqo, nI, qfb, qe9, Bool.not_true, Bool.not_false, Bool.and_true, Bool.true_and, Bool.and_false, Bool.false_and, Bool.or_true, Bool.true_or, Bool.or_false, Bool.false_or, beq_self_eq_true, dTT, dFF, dT, dF, bigI, big0, qnc, qr4, qr5, List.length_set, List.length_replicate, Int.toNat_natCast, qed, qee, imax, imin, qbh, qbq]
  cases h : idOk a0 a1 a2
  · simp [qqc, h]
  · rw [qqf h]; rfl
theorem qbu (k : Nat) (hk : 2000000 ≤ k) (a0 : Int) (a1 : Int) (a2 : Int) : go1 (k + 5) impl_endOf [(.agg [(.int .i64 (a0)), (.int .i64 (a1)), (.int .i64 (a2))])] = some [.int .i64 (qqc a0 a1 a2 + qrw a1)] := by
  rw [qgf]
  simp (disch := omega) only [qay, nth0, nth1, nth2, nth3, bit, qef, qeg, qer, qew, qex, qey, qez, qe0, qe1, qe2, qeh, qei, qej, qek, qel, qem, qen, qeo, qep, qeq, qes, qet, qeu, qev, qrf, qre, qrg, qnd, qn3, qn5, qjh, qa5, qqo, nI, qfb, qe9, Bool.not_true, Bool.not_false, Bool.and_true, Bool.true_and, Bool.and_false, Bool.false_and, Bool.or_true, Bool.true_or, Bool.or_false, Bool.false_or, beq_self_eq_true, dTT, dFF, dT, dF, bigI, big0, qnc, qr4, qr5, List.length_set, List.length_replicate, Int.toNat_natCast, qed, qee, imax, imin, qbn, qbq, qir]
theorem qlu (k : Nat) (hk : 2000000 ≤ k) (fu : List (Nat × Nat)) (z : Bool) (l : List Cell) (roots : Int) (hl : (l.length : Int) ≤ 1048576) : ∀ (n i : Nat) (pos : Int), i ≤ l.length → l.length - i < n →
    lp1 (k + 5) impl_MeshOk [] fu 3 (n) (qoo pos (l.length : Int) (i : Int) z l roots) = some [.bool (qmx roots pos (l.drop i))]
  | 0, i, pos, hi, hn => by omega
  | n + 1, i, pos, hi, hn => by
    rw [qj7]
    by_cases h : i < l.length
    · rw [qfo h zz3]
      simp (disch := omega) only [qay, nth0, nth1, nth2, nth3, bit, qef, qeg, qer, qew, qex, qey, qez, qe0, qe1, qe2, qeh, qei, qej, qek, qel, qem, qen, qeo, qep, qeq, qes, qet, qeu, qev, qrf, qre, qrg, qnd, qn3, qn5, qjh, qa5, qqo, nI, qfb, qe9, Bool.not_true, Bool.not_false, Bool.and_true, Bool.true_and, Bool.and_false, Bool.false_and, Bool.or_true, Bool.true_or, Bool.or_false, Bool.false_or, beq_self_eq_true, dTT, dFF, dT, dF, bigI, big0, qnc, qr4, qr5, List.length_set, List.length_replicate, Int.toNat_natCast, qed, qee, imax, imin, qbh, qbn, qbu, qmx]
      rw [qlu k hk fu z l roots hl n (i + 1) _ (by omega) (by omega)]
      simp only [qfc, qfd, Bool.and_assoc]
    · rw [List.drop_of_length_le (by omega)]
      simp (disch := omega) only [qay, nth0, nth1, nth2, nth3, bit, qef, qeg, qer, qew, qex, qey, qez, qe0, qe1, qe2, qeh, qei, qej, qek, qel, qem, qen, qeo, qep, qeq, qes, qet, qeu, qev, qrf, qre, qrg, qnd, qn3, qn5, qjh, qa5, qqo, nI, qfb, qe9, Bool.not_true, Bool.not_false, Bool.and_true, Bool.true_and, Bool.and_false, Bool.false_and, Bool.or_true, Bool.true_or, Bool.or_false, Bool.false_or, beq_self_eq_true, dTT, dFF, dT, dF, bigI, big0, qnc, qr4, qr5, List.length_set, List.length_replicate, Int.toNat_natCast, qed, qee, imax, imin, qb8]
      exact qm0 roots pos
theorem qbk (k : Nat) (hk : 2000000 ≤ k) (a0 : Int) (a1z : Bool) (a1 : List (Int × Int × Int)) (hl : (a1.length : Int) ≤ 1048576) : go1 (k + 6) impl_MeshOk [(.agg [(.int .i64 (a0)), (.arr false (a1z) (.r3 (a1)))])] = some [.bool (qmx a0 0 a1)] := by
  rw [qf1]
  exact qlu k hk _ _ a1 a0 hl _ 0 0 (by omega) (by omega)
end Go.Proofs.YtjfjniebmdafeaaGreatDoor
end
section
namespace Go.Proofs.YtjfjniebmdafeaaGreatDoor
open Go.Ev
theorem qfa {α : Type} (a : Bool) (x y : α) : cond (!a) x y = cond a y x := by cases a <;> rfl
theorem qe8 {α : Type} (a b : Bool) (x y : α) : cond a (cond b x y) y = cond (a && b) x y := by cases a <;> rfl
abbrev qla (l : List Cell) (i : Nat) : Int := (l.getD i zz3).2.1
def qab (l : List Cell) : Prop := ∀ i, 0 ≤ qla l i ∧ qla l i ≤ 4
theorem qm3 : ∀ (l : List Cell) (r p : Int), qmx r p l = true → ∀ i, 0 ≤ qla l i ∧ qla l i ≤ 4
  | [], r, p, h, i => by simp [qla]
  | x :: l, r, p, h, i => by
    simp only [qmx, Bool.and_eq_true] at h
    cases i with
    | zero => have := lev0 (qjc h.1).2.2.1; simpa [qla] using this
    | succ i => have := qm3 l r _ h.2.2 i; simpa [qla] using this
def qrh (l : List Cell) : Nat → Nat → Int
  | 0, _ => -1
  | n + 1, i => if 1 < qla l i - qla l (i + 1) ∨ qla l i - qla l (i + 1) < -1 then (i : Int) else qrh l n (i + 1)
def unb (l : List Cell) : Int := qrh l (l.length - 1) 0
theorem qbs (k : Nat) (hk : 2000000 ≤ k) (a : Int) (h : -9223372036854775807 ≤ a) (h' : a ≤ 9223372036854775807) : go (k + 1) impl_absolute [(.int .i64 (a))] = some [.int .i64 (max (0 - a) a)] := by
  rw [qgd]; simp (disch := omega) only [qay, nth0, nth1, nth2, nth3, bit, qef, qeg, qer, qew, qex, qey, qez, qe0, qe1, qe2, qeh, qei, qej, qek, qel, qem, qen, qeo, qep, qeq, qes, qet, qeu, qev, qrf, qre, qrg, qnd, qn3, qn5, qjh, qa5, qqo, nI, qfb, qe9, Bool.not_true, Bool.not_false, Bool.and_true, Bool.true_and, Bool.and_false, Bool.false_and, Bool.or_true, Bool.true_or, Bool.or_false, Bool.false_or, beq_self_eq_true, dTT, dFF, dT, dF, bigI, big0, qnc, qr4, qr5, List.length_set, List.length_replicate, Int.toNat_natCast, qed, qee, imax, imin]
theorem qmc (k : Nat) (hk : 2000000 ≤ k) (fu : List (Nat × Nat)) (z : Bool) (l : List Cell) (r : Int) (hl : (l.length : Int) ≤ 1048576) (hv : qab l) : ∀ (n i : Nat), i ≤ l.length → l.length - 1 - i < n →
    lp k spec_l05First [] fu 2 (n) (qo5 (i : Int) z l r) = some [.int .i64 (qrh l (l.length - 1 - i) i)]
  | 0, i, hi, hn => by omega
  | n + 1, i, hi, hn => by
    rw [qko]
    by_cases h : i + 1 < l.length
    · have e := qmc k hk fu z l r hl hv n (i + 1) (by omega) (by omega)
      have h1 := hv i; have h2 := hv (i + 1)
      simp only [qla] at h1 h2
      simp (disch := omega) only [qay, nth0, nth1, nth2, nth3, bit, qef, qeg, qer, qew, qex, qey, qez, qe0, qe1, qe2, qeh, qei, qej, qek, qel, qem, qen, qeo, qep, qeq, qes, qet, qeu, qev, qrf, qre, qrg, qnd, qn3, qn5, qjh, qa5, qqo, nI, qfb, qe9, Bool.not_true, Bool.not_false, Bool.and_true, Bool.true_and, Bool.and_false, Bool.false_and, Bool.or_true, Bool.true_or, Bool.or_false, Bool.false_or, beq_self_eq_true, dTT, dFF, dT, dF, bigI, big0, qnc, qr4, qr5, List.length_set, List.length_replicate, Int.toNat_natCast, qed, qee, imax, imin, e]
      rw [show l.length - 1 - i = (l.length - 1 - (i + 1)) + 1 by omega, qrh]
      simp only [qla]
      by_cases g : 1 < (l.getD i zz3).2.1 - (l.getD (i + 1) zz3).2.1
      · simp (disch := omega) only [qay, nth0, nth1, nth2, nth3, bit, qef, qeg, qer, qew, qex, qey, qez, qe0, qe1, qe2, qeh, qei, qej, qek, qel, qem, qen, qeo, qep, qeq, qes, qet, qeu, qev, qrf, qre, qrg, qnd, qn3, qn5, qjh, qa5, qqo, nI, qfb, qe9, Bool.not_true, Bool.not_false, Bool.and_true, Bool.true_and, Bool.and_false, Bool.false_and, Bool.or_true, Bool.true_or, Bool.or_false, Bool.false_or, beq_self_eq_true, dTT, dFF, dT, dF, bigI, big0, qnc, qr4, qr5, List.length_set, List.length_replicate, Int.toNat_natCast, qed, qee, imax, imin]; rw [if_pos (Or.inl g)]
      · by_cases g2 : (l.getD i zz3).2.1 - (l.getD (i + 1) zz3).2.1 < -1
        · simp (disch := omega) only [qay, nth0, nth1, nth2, nth3, bit, qef, qeg, qer, qew, qex, qey, qez, qe0, qe1, qe2, qeh, qei, qej, qek, qel, qem, qen, qeo, qep, qeq, qes, qet, qeu, qev, qrf, qre, qrg, qnd, qn3, qn5, qjh, qa5, qqo, nI, qfb, qe9, Bool.not_true, Bool.not_false, Bool.and_true, Bool.true_and, Bool.and_false, Bool.false_and, Bool.or_true, Bool.true_or, Bool.or_false, Bool.false_or, beq_self_eq_true, dTT, dFF, dT, dF, bigI, big0, qnc, qr4, qr5, List.length_set, List.length_replicate, Int.toNat_natCast, qed, qee, imax, imin]; rw [if_pos (Or.inr g2)]
        · simp (disch := omega) only [qay, nth0, nth1, nth2, nth3, bit, qef, qeg, qer, qew, qex, qey, qez, qe0, qe1, qe2, qeh, qei, qej, qek, qel, qem, qen, qeo, qep, qeq, qes, qet, qeu, qev, qrf, qre, qrg, qnd, qn3, qn5, qjh, qa5, qqo, nI, qfb, qe9, Bool.not_true, Bool.not_false, Bool.and_true, Bool.true_and, Bool.and_false, Bool.false_and, Bool.or_true, Bool.true_or, Bool.or_false, Bool.false_or, beq_self_eq_true, dTT, dFF, dT, dF, bigI, big0, qnc, qr4, qr5, List.length_set, List.length_replicate, Int.toNat_natCast, qed, qee, imax, imin]; rw [if_neg (not_or.2 ⟨g, g2⟩)]
    · simp (disch := omega) only [qay, nth0, nth1, nth2, nth3, bit, qef, qeg, qer, qew, qex, qey, qez, qe0, qe1, qe2, qeh, qei, qej, qek, qel, qem, qen, qeo, qep, qeq, qes, qet, qeu, qev, qrf, qre, qrg, qnd, qn3, qn5, qjh, qa5, qqo, nI, qfb, qe9, Bool.not_true, Bool.not_false, Bool.and_true, Bool.true_and, Bool.and_false, Bool.false_and, Bool.or_true, Bool.true_or, Bool.or_false, Bool.false_or, beq_self_eq_true, dTT, dFF, dT, dF, bigI, big0, qnc, qr4, qr5, List.length_set, List.length_replicate, Int.toNat_natCast, qed, qee, imax, imin]
      rw [show l.length - 1 - i = 0 by omega]; rfl
theorem qdi (k : Nat) (hk : 2000000 ≤ k) (a0 : Int) (a1z : Bool) (a1 : List (Int × Int × Int)) (hl : (a1.length : Int) ≤ 1048576) (hv : qab a1) : go (k + 1) spec_l05First [(.agg [(.int .i64 (a0)), (.arr false (a1z) (.r3 (a1)))])] = some [.int .i64 (unb a1)] := by
  rw [qhv]
  exact qmc k hk [] a1z a1 a0 hl hv _ 0 (by omega) (by omega)
theorem qlw (k : Nat) (hk : 2000000 ≤ k) (fu : List (Nat × Nat)) (z : Bool) (l : List Cell) (r : Int) (hl : (l.length : Int) ≤ 1048576) (hv : qab l) : ∀ (n i : Nat), i ≤ l.length → l.length - 1 - i < n →
    lp (k + 1) impl_Mesh_unbalanced [] fu 2 (n) (qop ((l.length : Int) - 1) (i : Int) z l r) = some [.int .i64 (qrh l (l.length - 1 - i) i)]
  | 0, i, hi, hn => by omega
  | n + 1, i, hi, hn => by
    rw [qj8]
    by_cases h : i + 1 < l.length
    · have e := qlw k hk fu z l r hl hv n (i + 1) (by omega) (by omega)
      have h1 := hv i; have h2 := hv (i + 1)
      simp only [qla] at h1 h2
      simp (disch := omega) only [qay, nth0, nth1, nth2, nth3, bit, qef, qeg, qer, qew, qex, qey, qez, qe0, qe1, qe2, qeh, qei, qej, qek, qel, qem, qen, qeo, qep, qeq, qes, qet, qeu, qev, qrf, qre, qrg, qnd, qn3, qn5, qjh, qa5, qqo, nI, qfb, qe9, Bool.not_true, Bool.not_false, Bool.and_true, Bool.true_and, Bool.and_false, Bool.false_and, Bool.or_true, Bool.true_or, Bool.or_false, Bool.false_or, beq_self_eq_true, dTT, dFF, dT, dF, bigI, big0, qnc, qr4, qr5, List.length_set, List.length_replicate, Int.toNat_natCast, qed, qee, imax, imin, e, qbs]
      rw [show l.length - 1 - i = (l.length - 1 - (i + 1)) + 1 by omega, qrh]
      simp only [qla]
      by_cases g : 1 < (l.getD i zz3).2.1 - (l.getD (i + 1) zz3).2.1
      · simp (disch := omega) only [qay, nth0, nth1, nth2, nth3, bit, qef, qeg, qer, qew, qex, qey, qez, qe0, qe1, qe2, qeh, qei, qej, qek, qel, qem, qen, qeo, qep, qeq, qes, qet, qeu, qev, qrf, qre, qrg, qnd, qn3, qn5, qjh, qa5, qqo, nI, qfb, qe9, Bool.not_true, Bool.not_false, Bool.and_true, Bool.true_and, Bool.and_false, Bool.false_and, Bool.or_true, Bool.true_or, Bool.or_false, Bool.false_or, beq_self_eq_true, dTT, dFF, dT, dF, bigI, big0, qnc, qr4, qr5, List.length_set, List.length_replicate, Int.toNat_natCast, qed, qee, imax, imin]; rw [if_pos (Or.inl g)]
      · by_cases g2 : (l.getD i zz3).2.1 - (l.getD (i + 1) zz3).2.1 < -1
        · simp (disch := omega) only [qay, nth0, nth1, nth2, nth3, bit, qef, qeg, qer, qew, qex, qey, qez, qe0, qe1, qe2, qeh, qei, qej, qek, qel, qem, qen, qeo, qep, qeq, qes, qet, qeu, qev, qrf, qre, qrg, qnd, qn3, qn5, qjh, qa5, qqo, nI, qfb, qe9, Bool.not_true, Bool.not_false, Bool.and_true, Bool.true_and, Bool.and_false, Bool.false_and, Bool.or_true, Bool.true_or, Bool.or_false, Bool.false_or, beq_self_eq_true, dTT, dFF, dT, dF, bigI, big0, qnc, qr4, qr5, List.length_set, List.length_replicate, Int.toNat_natCast, qed, qee, imax, imin]; rw [if_pos (Or.inr g2)]
        · simp (disch := omega) only [qay, nth0, nth1, nth2, nth3, bit, qef, qeg, qer, qew, qex, qey, qez, qe0, qe1, qe2, qeh, qei, qej, qek, qel, qem, qen, qeo, qep, qeq, qes, qet, qeu, qev, qrf, qre, qrg, qnd, qn3, qn5, qjh, qa5, qqo, nI, qfb, qe9, Bool.not_true, Bool.not_false, Bool.and_true, Bool.true_and, Bool.and_false, Bool.false_and, Bool.or_true, Bool.true_or, Bool.or_false, Bool.false_or, beq_self_eq_true, dTT, dFF, dT, dF, bigI, big0, qnc, qr4, qr5, List.length_set, List.length_replicate, Int.toNat_natCast, qed, qee, imax, imin]; rw [if_neg (not_or.2 ⟨g, g2⟩)]
    · simp (disch := omega) only [qay, nth0, nth1, nth2, nth3, bit, qef, qeg, qer, qew, qex, qey, qez, qe0, qe1, qe2, qeh, qei, qej, qek, qel, qem, qen, qeo, qep, qeq, qes, qet, qeu, qev, qrf, qre, qrg, qnd, qn3, qn5, qjh, qa5, qqo, nI, qfb, qe9, Bool.not_true, Bool.not_false, Bool.and_true, Bool.true_and, Bool.and_false, Bool.false_and, Bool.or_true, Bool.true_or, Bool.or_false, Bool.false_or, beq_self_eq_true, dTT, dFF, dT, dF, bigI, big0, qnc, qr4, qr5, List.length_set, List.length_replicate, Int.toNat_natCast, qed, qee, imax, imin]
      rw [show l.length - 1 - i = 0 by omega]; rfl
theorem qb6 (k : Nat) (hk : 2000000 ≤ k) (a0 : Int) (a1z : Bool) (a1 : List (Int × Int × Int)) (hl : (a1.length : Int) ≤ 1048576) (hv : qab a1) : go (k + 2) impl_Mesh_unbalanced [(.agg [(.int .i64 (a0)), (.arr false (a1z) (.r3 (a1)))])] = some [.int .i64 (unb a1)] := by
  rw [qf2]
  simp (disch := omega) only [qay, nth0, nth1, nth2, nth3, bit, qef, qeg, qer, qew, qex, qey, qez, qe0, qe1, qe2, qeh, qei, qej, qek, qel, qem, qen, qeo, qep, qeq, qes, qet, qeu, qev, qrf, qre, qrg, qnd, qn3, qn5, qjh, qa5, qqo, nI, qfb, qe9, Bool.not_true, Bool.not_false, Bool.and_true, Bool.true_and, Bool.and_false, Bool.false_and, Bool.or_true, Bool.true_or, Bool.or_false, Bool.false_or, beq_self_eq_true, dTT, dFF, dT, dF, bigI, big0, qnc, qr4, qr5, List.length_set, List.length_replicate, Int.toNat_natCast, qed, qee, imax, imin]
  exact qlw k hk [] a1z a1 a0 hl hv _ 0 (by omega) (by omega)
def qas (r : Int) (l : List Cell) : Bool := qmx r 0 l && decide (unb l < 0)
theorem qcm (k : Nat) (hk : 2000000 ≤ k) (a0 : Int) (a1z : Bool) (a1 : List (Int × Int × Int)) (hl : (a1.length : Int) ≤ 1048576) : go (k + 6) spec_IsBalanced [(.agg [(.int .i64 (a0)), (.arr false (a1z) (.r3 (a1)))])] = some [.bool (qas a0 a1)] := by
  rw [qg3]
  simp (disch := omega) only [qay, nth0, nth1, nth2, nth3, bit, qef, qeg, qer, qew, qex, qey, qez, qe0, qe1, qe2, qeh, qei, qej, qek, qel, qem, qen, qeo, qep, qeq, qes, qet, qeu, qev, qrf, qre, qrg, qnd, qn3, qn5, qjh, qa5, qqo, nI, qfb, qe9, Bool.not_true, Bool.not_false, Bool.and_true, Bool.true_and, Bool.and_false, Bool.false_and, Bool.or_true, Bool.true_or, Bool.or_false, Bool.false_or, beq_self_eq_true, dTT, dFF, dT, dF, bigI, big0, qnc, qr4, qr5, List.length_set, List.length_replicate, Int.toNat_natCast, qed, qee, imax, imin, qcs]
  unfold qas
  cases h : qmx a0 0 a1
  · rfl
  · have hv : qab a1 := qm3 _ _ _ h
    simp (disch := omega) only [qay, nth0, nth1, nth2, nth3, bit, qef, qeg, qer, qew, qex, qey, qez, qe0, qe1, qe2, qeh, qei, qej, qek, qel, qem, qen, qeo, qep, qeq, qes, qet, qeu, qev, qrf, qre, qrg, qnd, qn3, qn5, qjh, qa5, qqo, nI, qfb, qe9, Bool.not_true, Bool.not_false, Bool.and_true, Bool.true_and, Bool.and_false, Bool.false_and, Bool.or_true, Bool.true_or, Bool.or_false, Bool.false_or, beq_self_eq_true, dTT, dFF, dT, dF, bigI, big0, qnc, qr4, qr5, List.length_set, List.length_replicate, Int.toNat_natCast, qed, qee, imax, imin, qdi k hk]
    rw [qdi _ (by omega) _ _ _ hl hv]; simp (disch := omega) only [qay, nth0, nth1, nth2, nth3, bit, qef, qeg, qer, qew, qex, qey, qez, qe0, qe1, qe2, qeh, qei, qej, qek, qel, qem, qen, qeo, qep, qeq, qes, qet, qeu, qev, qrf, qre, qrg, qnd, qn3, qn5, qjh, qa5, qqo, nI, qfb, qe9, Bool.not_true, Bool.not_false, Bool.and_true, Bool.true_and, Bool.and_false, Bool.false_and, Bool.or_true, Bool.true_or, Bool.or_false, Bool.false_or, beq_self_eq_true, dTT, dFF, dT, dF, bigI, big0, qnc, qr4, qr5, List.length_set, List.length_replicate, Int.toNat_natCast, qed, qee, imax, imin]
theorem qbi (k : Nat) (hk : 2000000 ≤ k) (a0 : Int) (a1z : Bool) (a1 : List (Int × Int × Int)) (hl : (a1.length : Int) ≤ 1048576) : go (k + 7) impl_IsBalanced [(.agg [(.int .i64 (a0)), (.arr false (a1z) (.r3 (a1)))])] = some [.bool (qas a0 a1)] := by
  rw [qfz]
  simp (disch := omega) only [qay, nth0, nth1, nth2, nth3, bit, qef, qeg, qer, qew, qex, qey, qez, qe0, qe1, qe2, qeh, qei, qej, qek, qel, qem, qen, qeo, qep, qeq, qes, qet, qeu, qev, qrf, qre, qrg, qnd, qn3, qn5, qjh, qa5, qqo, nI, qfb, qe9, Bool.not_true, Bool.not_false, Bool.and_true, Bool.true_and, Bool.and_false, Bool.false_and, Bool.or_true, Bool.true_or, Bool.or_false, Bool.false_or, beq_self_eq_true, dTT, dFF, dT, dF, bigI, big0, qnc, qr4, qr5, List.length_set, List.length_replicate, Int.toNat_natCast, qed, qee, imax, imin, qbj]
  unfold qas
  cases h : qmx a0 0 a1
  · rfl
  · have hv : qab a1 := qm3 _ _ _ h
    rw [qfb, qb6 _ (by omega) _ _ _ hl hv]; simp (disch := omega) only [qay, nth0, nth1, nth2, nth3, bit, qef, qeg, qer, qew, qex, qey, qez, qe0, qe1, qe2, qeh, qei, qej, qek, qel, qem, qen, qeo, qep, qeq, qes, qet, qeu, qev, qrf, qre, qrg, qnd, qn3, qn5, qjh, qa5, qqo, nI, qfb, qe9, Bool.not_true, Bool.not_false, Bool.and_true, Bool.true_and, Bool.and_false, Bool.false_and, Bool.or_true, Bool.true_or, Bool.or_false, Bool.false_or, beq_self_eq_true, dTT, dFF, dT, dF, bigI, big0, qnc, qr4, qr5, List.length_set, List.length_replicate, Int.toNat_natCast, qed, qee, imax, imin]
def isum : List Int → Int
  | [] => 0
  | x :: l => x + isum l
theorem qjo {B : Int} : ∀ (l : List Int), (∀ x ∈ l, 0 ≤ x ∧ x ≤ B) → 0 ≤ isum l ∧ isum l ≤ B * l.length
  | [], h => by simp [isum]
  | x :: l, h => by
    have := qjo l fun y hy => h y (by simp [hy])
    have h2 := h x (by simp)
    simp only [isum, List.length_cons, Int.natCast_add, Int.natCast_one, Int.mul_add, Int.mul_one]; omega
theorem qjn {B : Int} (hB : 0 ≤ B) : ∀ (l : List Int) (i : Nat), (∀ x ∈ l, 0 ≤ x ∧ x ≤ B) → 0 ≤ isum (l.drop i) ∧ isum (l.drop i) ≤ isum l
  | [], i, h => by simp [isum]
  | x :: l, 0, h => by have := qjo (x :: l) h; simp only [List.drop_zero]; omega
  | x :: l, i + 1, h => by
    have := qjn hB l i fun y hy => h y (by simp [hy])
    have h2 := h x (by simp)
    simp only [isum, List.drop_succ_cons]; omega
theorem qmf (k : Nat) (hk : 2000000 ≤ k) (fu : List (Nat × Nat)) (z : Bool) (l : List Int) (hl : (l.length : Int) ≤ 1048576) (hb : ∀ x ∈ l, 0 ≤ x ∧ x ≤ 1000000000000) : ∀ (n i : Nat) (s : Int), i ≤ l.length → l.length - i < n → s + isum (l.drop i) = isum l → 0 ≤ s →
    lp k spec_l07Sum [] fu 3 (n) (qo8 s (i : Int) z l) = some [.int .i64 (isum l)]
  | 0, i, s, hi, hn, hs, h0 => by omega
  | n + 1, i, s, hi, hn, hs, h0 => by
    rw [qkr]
    by_cases h : i < l.length
    · rw [qfo h 0] at hs
      simp only [isum] at hs
      have h1 := qjo l hb
      have h2 := qjn (by omega) l (i + 1) hb
      have h3 := hb _ (qja h 0)
      simp (disch := omega) only [qay, nth0, nth1, nth2, nth3, bit, qef, qeg, qer, qew, qex, qey, qez, qe0, qe1, qe2, qeh, qei, qej, qek, qel, qem, qen, qeo, qep, qeq, qes, qet, qeu, qev, qrf, qre, qrg, qnd, qn3, qn5, qjh, qa5, qqo, nI, qfb, qe9, Bool.not_true, Bool.not_false, Bool.and_true, Bool.true_and, Bool.and_false, Bool.false_and, Bool.or_true, Bool.true_or, Bool.or_false, Bool.false_or, beq_self_eq_true, dTT, dFF, dT, dF, bigI, big0, qnc, qr4, qr5, List.length_set, List.length_replicate, Int.toNat_natCast, qed, qee, imax, imin]
      exact qmf k hk fu z l hl hb n (i + 1) _ (by omega) (by omega) (by omega) (by omega)
    · rw [List.drop_of_length_le (by omega)] at hs
      simp only [isum] at hs
      simp (disch := omega) only [qay, nth0, nth1, nth2, nth3, bit, qef, qeg, qer, qew, qex, qey, qez, qe0, qe1, qe2, qeh, qei, qej, qek, qel, qem, qen, qeo, qep, qeq, qes, qet, qeu, qev, qrf, qre, qrg, qnd, qn3, qn5, qjh, qa5, qqo, nI, qfb, qe9, Bool.not_true, Bool.not_false, Bool.and_true, Bool.true_and, Bool.and_false, Bool.false_and, Bool.or_true, Bool.true_or, Bool.or_false, Bool.false_or, beq_self_eq_true, dTT, dFF, dT, dF, bigI, big0, qnc, qr4, qr5, List.length_set, List.length_replicate, Int.toNat_natCast, qed, qee, imax, imin]
      rw [show s = isum l by omega]
theorem qdp (k : Nat) (hk : 2000000 ≤ k) (az : Bool) (a : List Int) (hl : (a.length : Int) ≤ 1048576) (hb : ∀ x ∈ a, 0 ≤ x ∧ x ≤ 1000000000000) : go (k + 1) spec_l07Sum [(.arr false (az) (.ints .i64 (a)))] = some [.int .i64 (isum a)] := by
  rw [qh2]
  exact qmf k hk [] az a hl hb _ 0 0 (by omega) (by omega) (by simp) (by omega)
theorem qlv (k : Nat) (hk : 2000000 ≤ k) (fu : List (Nat × Nat)) (z : Bool) (l : List Int) (hl : (l.length : Int) ≤ 1048576) (hb : ∀ x ∈ l, 0 ≤ x ∧ x ≤ 1000000000000) : ∀ (n i : Nat) (s : Int), i ≤ l.length → l.length - i < n → s + isum (l.drop i) = isum l → 0 ≤ s →
    lp k impl_sum [] fu 3 (n) (qor s (l.length : Int) (i : Int) z l) = some [.int .i64 (isum l)]
  | 0, i, s, hi, hn, hs, h0 => by omega
  | n + 1, i, s, hi, hn, hs, h0 => by
    rw [qka]
    by_cases h : i < l.length
    · rw [qfo h 0] at hs
      simp only [isum] at hs
      have h1 := qjo l hb
      have h2 := qjn (by omega) l (i + 1) hb
      have h3 := hb _ (qja h 0)
      simp (disch := omega) only [qay, nth0, nth1, nth2, nth3, bit, qef, qeg, qer, qew, qex, qey, qez, qe0, qe1, qe2, qeh, qei, qej, qek, qel, qem, qen, qeo, qep, qeq, qes, qet, qeu, qev, qrf, qre, qrg, qnd, qn3, qn5, qjh, qa5, qqo, nI, qfb, qe9, Bool.not_true, Bool.not_false, Bool.and_true, Bool.true_and, Bool.and_false, Bool.false_and, Bool.or_true, Bool.true_or, Bool.or_false, Bool.false_or, beq_self_eq_true, dTT, dFF, dT, dF, bigI, big0, qnc, qr4, qr5, List.length_set, List.length_replicate, Int.toNat_natCast, qed, qee, imax, imin]
      exact qlv k hk fu z l hl hb n (i + 1) _ (by omega) (by omega) (by omega) (by omega)
    · rw [List.drop_of_length_le (by omega)] at hs
      simp only [isum] at hs
      simp (disch := omega) only [qay, nth0, nth1, nth2, nth3, bit, qef, qeg, qer, qew, qex, qey, qez, qe0, qe1, qe2, qeh, qei, qej, qek, qel, qem, qen, qeo, qep, qeq, qes, qet, qeu, qev, qrf, qre, qrg, qnd, qn3, qn5, qjh, qa5, qqo, nI, qfb, qe9, Bool.not_true, Bool.not_false, Bool.and_true, Bool.true_and, Bool.and_false, Bool.false_and, Bool.or_true, Bool.true_or, Bool.or_false, Bool.false_or, beq_self_eq_true, dTT, dFF, dT, dF, bigI, big0, qnc, qr4, qr5, List.length_set, List.length_replicate, Int.toNat_natCast, qed, qee, imax, imin]
      rw [show s = isum l by omega]
theorem qb4 (k : Nat) (hk : 2000000 ≤ k) (az : Bool) (a : List Int) (hl : (a.length : Int) ≤ 1048576) (hb : ∀ x ∈ a, 0 ≤ x ∧ x ≤ 1000000000000) : go (k + 1) impl_sum [(.arr false (az) (.ints .i64 (a)))] = some [.int .i64 (isum a)] := by
  rw [qgm]
  exact qlv k hk [] az a hl hb _ 0 0 (by omega) (by omega) (by simp) (by omega)
def qmo : List Int → List Int → Bool
  | m :: ms, t :: ts => inR m 0 10000000 && (inR t 0 (1000 * m) && qmo ms ts)
  | _, _ => true
theorem qmq : ∀ (ms ts : List Int), ms.length = ts.length → qmo ms ts = true → (∀ x ∈ ms, 0 ≤ x ∧ x ≤ 10000000) ∧ (∀ x ∈ ts, 0 ≤ x ∧ x ≤ 10000000000)
  | [], ts, hl, h => by cases ts <;> simp_all
  | m :: ms, [], hl, h => by simp at hl
  | m :: ms, t :: ts, hl, h => by
    simp only [qmo, Bool.and_eq_true, qjf] at h
    have := qmq ms ts (by simpa using hl) h.2.2
    refine ⟨fun x hx => ?_, fun x hx => ?_⟩
    · rcases List.mem_cons.1 hx with rfl | hx
      · exact h.1
      · exact this.1 x hx
    · rcases List.mem_cons.1 hx with rfl | hx
      · omega
      · exact this.2 x hx
theorem qmp : ∀ (ms ts : List Int), ms.length = ts.length → qmo ms ts = true → ∀ i, 0 ≤ ms.getD i 0 ∧ ms.getD i 0 ≤ 10000000 ∧ 0 ≤ ts.getD i 0 ∧ ts.getD i 0 ≤ 1000 * ms.getD i 0
  | [], ts, hl, h, i => by cases ts <;> simp_all
  | m :: ms, [], hl, h, i => by simp at hl
  | m :: ms, t :: ts, hl, h, i => by
    simp only [qmo, Bool.and_eq_true, qjf] at h
    cases i with
    | zero => simp; omega
    | succ i => have := qmp ms ts (by simpa using hl) h.2.2 i; simpa using this
def qav : List Int → Bool
  | [] => true
  | b :: l => inR b 0 1000000 && qav l
theorem qaw : ∀ (l : List Int), qav l = true → ∀ x ∈ l, 0 ≤ x ∧ x ≤ 1000000
  | [], h, x, hx => by cases hx
  | b :: l, h, x, hx => by
    simp only [qav, Bool.and_eq_true, qjf] at h
    rcases List.mem_cons.1 hx with rfl | hx
    · exact h.1
    · exact qaw l h.2 x hx
def stOk (r : Int) (l : List Cell) (m t b : List Int) : Bool :=
  qas r l && (decide (m.length = l.length) && (decide (t.length = l.length) && (decide ((b.length : Int) = r) && (qmo m t && (qav b && decide (isum m ≤ 10000000))))))
theorem ql6 (k : Nat) (hk : 2000000 ≤ k) (fu : List (Nat × Nat)) (r : Int) (z1 z2 z3 z4 : Bool) (l : List Cell) (m t b : List Int) (hm : (m.length : Int) ≤ 1048576) (hb : (b.length : Int) ≤ 1048576) (hx : ∀ x ∈ m, 0 ≤ x ∧ x ≤ 10000000) : ∀ (n i : Nat), i ≤ b.length → b.length - i < n →
    lp (k + 6) spec_StateOk [] fu 9 (n) (qo2 (i : Int) z1 l z2 m z3 t z4 b r) = some [.bool (qav (b.drop i) && decide (isum m ≤ 10000000))]
  | 0, i, hi, hn => by omega
  | n + 1, i, hi, hn => by
    rw [qkl]
    by_cases h : i < b.length
    · rw [qfo h 0]
      have e := ql6 k hk fu r z1 z2 z3 z4 l m t b hm hb hx n (i + 1) (by omega) (by omega)
      simp (disch := omega) only [qay, nth0, nth1, nth2, nth3, bit, qef, qeg, qer, qew, qex, qey, qez, qe0, qe1, qe2, qeh, qei, qej, qek, qel, qem, qen, qeo, qep, qeq, qes, qet, qeu, qev, qrf, qre, qrg, qnd, qn3, qn5, qjh, qa5, qqo, nI, qfb, qe9, Bool.not_true, Bool.not_false, Bool.and_true, Bool.true_and, Bool.and_false, Bool.false_and, Bool.or_true, Bool.true_or, Bool.or_false, Bool.false_or, beq_self_eq_true, dTT, dFF, dT, dF, bigI, big0, qnc, qr4, qr5, List.length_set, List.length_replicate, Int.toNat_natCast, qed, qee, imax, imin, qda, qav, e, qfc, Bool.and_assoc]
    · rw [List.drop_of_length_le (by omega)]
      have hx' : ∀ x ∈ m, 0 ≤ x ∧ x ≤ 1000000000000 := fun x hh => by have := hx x hh; omega
      rw [show decide ((i : Int) < nI b.length) = false by apply dF; simp only [nI]; omega, qe9, qdp _ (by omega) _ _ hm hx']
      simp (disch := omega) only [qay, nth0, nth1, nth2, nth3, bit, qef, qeg, qer, qew, qex, qey, qez, qe0, qe1, qe2, qeh, qei, qej, qek, qel, qem, qen, qeo, qep, qeq, qes, qet, qeu, qev, qrf, qre, qrg, qnd, qn3, qn5, qjh, qa5, qqo, nI, qfb, qe9, Bool.not_true, Bool.not_false, Bool.and_true, Bool.true_and, Bool.and_false, Bool.false_and, Bool.or_true, Bool.true_or, Bool.or_false, Bool.false_or, beq_self_eq_true, dTT, dFF, dT, dF, bigI, big0, qnc, qr4, qr5, List.length_set, List.length_replicate, Int.toNat_natCast, qed, qee, imax, imin, qav]
theorem ql5 (k : Nat) (hk : 2000000 ≤ k) (fu : List (Nat × Nat)) (r : Int) (z1 z2 z3 z4 : Bool) (l : List Cell) (m t b : List Int) (hm : (m.length : Int) ≤ 1048576) (ht : t.length = m.length) : ∀ (n i : Nat), i ≤ m.length → m.length - i < n →
    lp (k + 6) spec_StateOk [] fu 4 (n) (qo1 (i : Int) z1 l z2 m z3 t z4 b r) = cond (qmo (m.drop i) (t.drop i)) (lp (k + 6) spec_StateOk [] fu 9 (k + 6) (qo2 0 z1 l z2 m z3 t z4 b r)) (some [.bool false])
  | 0, i, hi, hn => by omega
  | n + 1, i, hi, hn => by
    rw [qkk]
    by_cases h : i < m.length
    · rw [qfo h 0, qfo (l := t) (by omega : i < t.length) 0]
      have e := ql5 k hk fu r z1 z2 z3 z4 l m t b hm ht n (i + 1) (by omega) (by omega)
      by_cases h1 : inR (m.getD i 0) 0 10000000 = true
      · have h2 := qjf.1 h1
        simp (disch := omega) only [qay, nth0, nth1, nth2, nth3, bit, qef, qeg, qer, qew, qex, qey, qez, qe0, qe1, qe2, qeh, qei, qej, qek, qel, qem, qen, qeo, qep, qeq, qes, qet, qeu, qev, qrf, qre, qrg, qnd, qn3, qn5, qjh, qa5, qqo, nI, qfb, qe9, Bool.not_true, Bool.not_false, Bool.and_true, Bool.true_and, Bool.and_false, Bool.false_and, Bool.or_true, Bool.true_or, Bool.or_false, Bool.false_or, beq_self_eq_true, dTT, dFF, dT, dF, bigI, big0, qnc, qr4, qr5, List.length_set, List.length_replicate, Int.toNat_natCast, qed, qee, imax, imin, qda, qmo, e, h1, qfa, qe8]
      · have h1 : inR (m.getD i 0) 0 10000000 = false := by simpa using h1
        simp (disch := omega) only [qay, nth0, nth1, nth2, nth3, bit, qef, qeg, qer, qew, qex, qey, qez, qe0, qe1, qe2, qeh, qei, qej, qek, qel, qem, qen, qeo, qep, qeq, qes, qet, qeu, qev, qrf, qre, qrg, qnd, qn3, qn5, qjh, qa5, qqo, nI, qfb, qe9, Bool.not_true, Bool.not_false, Bool.and_true, Bool.true_and, Bool.and_false, Bool.false_and, Bool.or_true, Bool.true_or, Bool.or_false, Bool.false_or, beq_self_eq_true, dTT, dFF, dT, dF, bigI, big0, qnc, qr4, qr5, List.length_set, List.length_replicate, Int.toNat_natCast, qed, qee, imax, imin, qda, qmo, h1]
    · rw [List.drop_of_length_le (by omega), List.drop_of_length_le (by omega)]
      simp (disch := omega) only [qay, nth0, nth1, nth2, nth3, bit, qef, qeg, qer, qew, qex, qey, qez, qe0, qe1, qe2, qeh, qei, qej, qek, qel, qem, qen, qeo, qep, qeq, qes, qet, qeu, qev, qrf, qre, qrg, qnd, qn3, qn5, qjh, qa5, qqo, nI, qfb, qe9, Bool.not_true, Bool.not_false, Bool.and_true, Bool.true_and, Bool.and_false, Bool.false_and, Bool.or_true, Bool.true_or, Bool.or_false, Bool.false_or, beq_self_eq_true, dTT, dFF, dT, dF, bigI, big0, qnc, qr4, qr5, List.length_set, List.length_replicate, Int.toNat_natCast, qed, qee, imax, imin, qmo]
theorem qcy (k : Nat) (hk : 2000000 ≤ k) (a0 : Int) (a1z : Bool) (a1 : List (Int × Int × Int)) (a2z : Bool) (a2 : List Int) (a3z : Bool) (a3 : List Int) (a4z : Bool) (a4 : List Int) (hl : (a1.length : Int) ≤ 1048576) (hb : (a4.length : Int) ≤ 1048576) : go (k + 7) spec_StateOk [(.agg [(.int .i64 (a0)), (.arr false (a1z) (.r3 (a1))), (.arr false (a2z) (.ints .i64 (a2))), (.arr false (a3z) (.ints .i64 (a3))), (.arr false (a4z) (.ints .i64 (a4)))])] = some [.bool (stOk a0 a1 a2 a3 a4)] := by
  rw [qhf]
  simp (disch := omega) only [qay, nth0, nth1, nth2, nth3, bit, qef, qeg, qer, qew, qex, qey, qez, qe0, qe1, qe2, qeh, qei, qej, qek, qel, qem, qen, qeo, qep, qeq, qes, qet, qeu, qev, qrf, qre, qrg, qnd, qn3, qn5, qjh, qa5, qqo, nI, qfb, qe9, Bool.not_true, Bool.not_false, Bool.and_true, Bool.true_and, Bool.and_false, Bool.false_and, Bool.or_true, Bool.true_or, Bool.or_false, Bool.false_or, beq_self_eq_true, dTT, dFF, dT, dF, bigI, big0, qnc, qr4, qr5, List.length_set, List.length_replicate, Int.toNat_natCast, qed, qee, imax, imin, qcm]
  unfold stOk
  cases qas a0 a1
  · rfl
  by_cases h1 : a2.length = a1.length
  case neg => simp (disch := omega) only [qay, nth0, nth1, nth2, nth3, bit, qef, qeg, qer, qew, qex, qey, qez, qe0, qe1, qe2, qeh, qei, qej, qek, qel, qem, qen, qeo, qep, qeq, qes, qet, qeu, qev, qrf, qre, qrg, qnd, qn3, qn5, qjh, qa5, qqo, nI, qfb, qe9, Bool.not_true, Bool.not_false, Bool.and_true, Bool.true_and, Bool.and_false, Bool.false_and, Bool.or_true, Bool.true_or, Bool.or_false, Bool.false_or, beq_self_eq_true, dTT, dFF, dT, dF, bigI, big0, qnc, qr4, qr5, List.length_set, List.length_replicate, Int.toNat_natCast, qed, qee, imax, imin]
  by_cases h2 : a3.length = a1.length
  case neg => simp (disch := omega) only [qay, nth0, nth1, nth2, nth3, bit, qef, qeg, qer, qew, qex, qey, qez, qe0, qe1, qe2, qeh, qei, qej, qek, qel, qem, qen, qeo, qep, qeq, qes, qet, qeu, qev, qrf, qre, qrg, qnd, qn3, qn5, qjh, qa5, qqo, nI, qfb, qe9, Bool.not_true, Bool.not_false, Bool.and_true, Bool.true_and, Bool.and_false, Bool.false_and, Bool.or_true, Bool.true_or, Bool.or_false, Bool.false_or, beq_self_eq_true, dTT, dFF, dT, dF, bigI, big0, qnc, qr4, qr5, List.length_set, List.length_replicate, Int.toNat_natCast, qed, qee, imax, imin]
  by_cases h3 : (a4.length : Int) = a0
  case neg => simp (disch := omega) only [qay, nth0, nth1, nth2, nth3, bit, qef, qeg, qer, qew, qex, qey, qez, qe0, qe1, qe2, qeh, qei, qej, qek, qel, qem, qen, qeo, qep, qeq, qes, qet, qeu, qev, qrf, qre, qrg, qnd, qn3, qn5, qjh, qa5, qqo, nI, qfb, qe9, Bool.not_true, Bool.not_false, Bool.and_true, Bool.true_and, Bool.and_false, Bool.false_and, Bool.or_true, Bool.true_or, Bool.or_false, Bool.false_or, beq_self_eq_true, dTT, dFF, dT, dF, bigI, big0, qnc, qr4, qr5, List.length_set, List.length_replicate, Int.toNat_natCast, qed, qee, imax, imin]
  simp (disch := omega) only [qay, nth0, nth1, nth2, nth3, bit, qef, qeg, qer, qew, qex, qey, qez, qe0, qe1, qe2, qeh, qei, qej, qek, qel, qem, qen, qeo, qep, qeq, qes, qet, qeu, qev, qrf, qre, qrg, qnd, qn3, qn5, qjh, qa5, qqo, nI, qfb, qe9, Bool.not_true, Bool.not_false, Bool.and_true, Bool.true_and, Bool.and_false, Bool.false_and, Bool.or_true, Bool.true_or, Bool.or_false, Bool.false_or, beq_self_eq_true, dTT, dFF, dT, dF, bigI, big0, qnc, qr4, qr5, List.length_set, List.length_replicate, Int.toNat_natCast, qed, qee, imax, imin]
  refine Eq.trans (ql5 k hk [] a0 a1z a2z a3z a4z a1 a2 a3 a4 (by omega) (by omega) _ 0 (by omega) (by omega)) ?_
  simp only [List.drop_zero]
  cases h4 : qmo a2 a3
  · rfl
  · have hx := (qmq a2 a3 (by omega) h4).1
    have e := ql6 k hk [] a0 a1z a2z a3z a4z a1 a2 a3 a4 (by omega) hb hx (k + 6) 0 (by omega) (by omega)
    simp only [List.drop_zero] at e
    simp only [qfb, Bool.true_and, dT (h1), dT (h2), dT (h3), decide_true]
    exact e
theorem qbx (k : Nat) (hk : 2000000 ≤ k) (a : Int) : go (k + 2) impl_isBed [(.int .i64 (a))] = some [.bool (inR a 0 1000000)] := by
  rw [qgg]; simp (disch := omega) only [qay, nth0, nth1, nth2, nth3, bit, qef, qeg, qer, qew, qex, qey, qez, qe0, qe1, qe2, qeh, qei, qej, qek, qel, qem, qen, qeo, qep, qeq, qes, qet, qeu, qev, qrf, qre, qrg, qnd, qn3, qn5, qjh, qa5, qqo, nI, qfb, qe9, Bool.not_true, Bool.not_false, Bool.and_true, Bool.true_and, Bool.and_false, Bool.false_and, Bool.or_true, Bool.true_or, Bool.or_false, Bool.false_or, beq_self_eq_true, dTT, dFF, dT, dF, bigI, big0, qnc, qr4, qr5, List.length_set, List.length_replicate, Int.toNat_natCast, qed, qee, imax, imin, qb7]
theorem qbw (k : Nat) (hk : 2000000 ≤ k) (a : Int) : go (k + 3) impl_State_hasCells_1 [(.int .i64 (a))] = some [.bool (!inR a 0 1000000)] := by
  rw [qf8]; simp (disch := omega) only [qay, nth0, nth1, nth2, nth3, bit, qef, qeg, qer, qew, qex, qey, qez, qe0, qe1, qe2, qeh, qei, qej, qek, qel, qem, qen, qeo, qep, qeq, qes, qet, qeu, qev, qrf, qre, qrg, qnd, qn3, qn5, qjh, qa5, qqo, nI, qfb, qe9, Bool.not_true, Bool.not_false, Bool.and_true, Bool.true_and, Bool.and_false, Bool.false_and, Bool.or_true, Bool.true_or, Bool.or_false, Bool.false_or, beq_self_eq_true, dTT, dFF, dT, dF, bigI, big0, qnc, qr4, qr5, List.length_set, List.length_replicate, Int.toNat_natCast, qed, qee, imax, imin, qbx]
theorem qlx (k : Nat) (hk : 2000000 ≤ k) (fu : List (Nat × Nat)) (z : Bool) (l : List Int) (hl : (l.length : Int) ≤ 1048576) : ∀ (n i : Nat), i ≤ l.length → l.length - i < n →
    ∃ j : Int, lp (k + 3) slices_IndexFunc_int_int [] fu 2 (n) (qot (l.length : Int) (i : Int) z l) = some [.int .i64 j] ∧ decide (0 ≤ j) = !qav (l.drop i)
  | 0, i, hi, hn => by omega
  | n + 1, i, hi, hn => by
    rw [qkc]
    by_cases h : i < l.length
    · rw [qfo h 0]
      obtain ⟨j, e1, e2⟩ := qlx k hk fu z l hl n (i + 1) (by omega) (by omega)
      simp (disch := omega) only [qay, nth0, nth1, nth2, nth3, bit, qef, qeg, qer, qew, qex, qey, qez, qe0, qe1, qe2, qeh, qei, qej, qek, qel, qem, qen, qeo, qep, qeq, qes, qet, qeu, qev, qrf, qre, qrg, qnd, qn3, qn5, qjh, qa5, qqo, nI, qfb, qe9, Bool.not_true, Bool.not_false, Bool.and_true, Bool.true_and, Bool.and_false, Bool.false_and, Bool.or_true, Bool.true_or, Bool.or_false, Bool.false_or, beq_self_eq_true, dTT, dFF, dT, dF, bigI, big0, qnc, qr4, qr5, List.length_set, List.length_replicate, Int.toNat_natCast, qed, qee, imax, imin, qbw, qav, e1]
      cases inR (l.getD i 0) 0 1000000
      · exact ⟨i, rfl, by rw [dT (by omega)]; rfl⟩
      · exact ⟨j, rfl, by rw [e2]; rfl⟩
    · rw [List.drop_of_length_le (by omega)]
      simp (disch := omega) only [qay, nth0, nth1, nth2, nth3, bit, qef, qeg, qer, qew, qex, qey, qez, qe0, qe1, qe2, qeh, qei, qej, qek, qel, qem, qen, qeo, qep, qeq, qes, qet, qeu, qev, qrf, qre, qrg, qnd, qn3, qn5, qjh, qa5, qqo, nI, qfb, qe9, Bool.not_true, Bool.not_false, Bool.and_true, Bool.true_and, Bool.and_false, Bool.false_and, Bool.or_true, Bool.true_or, Bool.or_false, Bool.false_or, beq_self_eq_true, dTT, dFF, dT, dF, bigI, big0, qnc, qr4, qr5, List.length_set, List.length_replicate, Int.toNat_natCast, qed, qee, imax, imin, qav]
      exact ⟨-1, rfl, rfl⟩
theorem qa8 (k : Nat) (hk : 2000000 ≤ k) (z : Bool) (l : List Int) (hl : (l.length : Int) ≤ 1048576) : go (k + 5) slices_ContainsFunc_int_int [.arr false z (.ints .i64 l), .fn impl_State_hasCells_1 []] = some [.bool (!qav l)] := by
  rw [qgr, qgs]
  obtain ⟨j, e1, e2⟩ := qlx k hk [] z l hl (k + 3) 0 (by omega) (by omega)
  have e1' := e1
  simp only [nI] at *
  rw [show ((0 : Nat) : Int) = 0 from rfl] at e1'
  rw [e1']
  simp (disch := omega) only [qay, nth0, nth1, nth2, nth3, bit, qef, qeg, qer, qew, qex, qey, qez, qe0, qe1, qe2, qeh, qei, qej, qek, qel, qem, qen, qeo, qep, qeq, qes, qet, qeu, qev, qrf, qre, qrg, qnd, qn3, qn5, qjh, qa5, qqo, nI, qfb, qe9, Bool.not_true, Bool.not_false, Bool.and_true, Bool.true_and, Bool.and_false, Bool.false_and, Bool.or_true, Bool.true_or, Bool.or_false, Bool.false_or, beq_self_eq_true, dTT, dFF, dT, dF, bigI, big0, qnc, qr4, qr5, List.length_set, List.length_replicate, Int.toNat_natCast, qed, qee, imax, imin]
  rw [show decide ((0 : Int) ≤ j) = !qav l from e2]
theorem qlo (k : Nat) (hk : 2000000 ≤ k) (fu : List (Nat × Nat)) (r : Int) (z1 z2 z3 z4 : Bool) (l : List Cell) (m t b : List Int) (hm : (m.length : Int) ≤ 1048576) (ht : t.length = m.length) (s : List D)
    (hs : qmo m t = true → go (k + 5) impl_sum [.arr false z2 (.ints .i64 m)] = some [.int .i64 (isum m)]) (P : Bool) : ∀ (n i : Nat), i ≤ m.length → m.length - i < n → (qmo (m.drop i) (t.drop i) = true → qmo m t = true) →
    lp (k + 5) impl_State_hasCells [] fu 5 (n) (qoq (m.length : Int) (i : Int) z1 l z2 m z3 t z4 b r) = some [.bool (qmo (m.drop i) (t.drop i) && decide (isum m ≤ 10000000))]
  | 0, i, hi, hn, hq => by omega
  | n + 1, i, hi, hn, hq => by
    rw [qj9]
    by_cases h : i < m.length
    · rw [qfo h 0, qfo (l := t) (by omega : i < t.length) 0] at hq ⊢
      by_cases h1 : inR (m.getD i 0) 0 10000000 = true
      · have h2 := qjf.1 h1
        by_cases h3 : inR (t.getD i 0) 0 (1000 * m.getD i 0) = true
        · have e := qlo k hk fu r z1 z2 z3 z4 l m t b hm ht s hs P n (i + 1) (by omega) (by omega) (fun hh => hq (by simp only [qmo, h1, h3, hh, Bool.and_self]))
          simp (disch := omega) only [qay, nth0, nth1, nth2, nth3, bit, qef, qeg, qer, qew, qex, qey, qez, qe0, qe1, qe2, qeh, qei, qej, qek, qel, qem, qen, qeo, qep, qeq, qes, qet, qeu, qev, qrf, qre, qrg, qnd, qn3, qn5, qjh, qa5, qqo, nI, qfb, qe9, Bool.not_true, Bool.not_false, Bool.and_true, Bool.true_and, Bool.and_false, Bool.false_and, Bool.or_true, Bool.true_or, Bool.or_false, Bool.false_or, beq_self_eq_true, dTT, dFF, dT, dF, bigI, big0, qnc, qr4, qr5, List.length_set, List.length_replicate, Int.toNat_natCast, qed, qee, imax, imin, qb7, qmo, e, h1, h3]
        · have h3 : inR (t.getD i 0) 0 (1000 * m.getD i 0) = false := by simpa using h3
          simp (disch := omega) only [qay, nth0, nth1, nth2, nth3, bit, qef, qeg, qer, qew, qex, qey, qez, qe0, qe1, qe2, qeh, qei, qej, qek, qel, qem, qen, qeo, qep, qeq, qes, qet, qeu, qev, qrf, qre, qrg, qnd, qn3, qn5, qjh, qa5, qqo, nI, qfb, qe9, Bool.not_true, Bool.not_false, Bool.and_true, Bool.true_and, Bool.and_false, Bool.false_and, Bool.or_true, Bool.true_or, Bool.or_false, Bool.false_or, beq_self_eq_true, dTT, dFF, dT, dF, bigI, big0, qnc, qr4, qr5, List.length_set, List.length_replicate, Int.toNat_natCast, qed, qee, imax, imin, qb7, qmo, h1, h3]
      · have h1 : inR (m.getD i 0) 0 10000000 = false := by simpa using h1
        simp (disch := omega) only [qay, nth0, nth1, nth2, nth3, bit, qef, qeg, qer, qew, qex, qey, qez, qe0, qe1, qe2, qeh, qei, qej, qek, qel, qem, qen, qeo, qep, qeq, qes, qet, qeu, qev, qrf, qre, qrg, qnd, qn3, qn5, qjh, qa5, qqo, nI, qfb, qe9, Bool.not_true, Bool.not_false, Bool.and_true, Bool.true_and, Bool.and_false, Bool.false_and, Bool.or_true, Bool.true_or, Bool.or_false, Bool.false_or, beq_self_eq_true, dTT, dFF, dT, dF, bigI, big0, qnc, qr4, qr5, List.length_set, List.length_replicate, Int.toNat_natCast, qed, qee, imax, imin, qb7, qmo, h1]
    · rw [List.drop_of_length_le (by omega), List.drop_of_length_le (by omega)] at hq ⊢
      have e := hs (hq rfl)
      simp (disch := omega) only [qay, nth0, nth1, nth2, nth3, bit, qef, qeg, qer, qew, qex, qey, qez, qe0, qe1, qe2, qeh, qei, qej, qek, qel, qem, qen, qeo, qep, qeq, qes, qet, qeu, qev, qrf, qre, qrg, qnd, qn3, qn5, qjh, qa5, qqo, nI, qfb, qe9, Bool.not_true, Bool.not_false, Bool.and_true, Bool.true_and, Bool.and_false, Bool.false_and, Bool.or_true, Bool.true_or, Bool.or_false, Bool.false_or, beq_self_eq_true, dTT, dFF, dT, dF, bigI, big0, qnc, qr4, qr5, List.length_set, List.length_replicate, Int.toNat_natCast, qed, qee, imax, imin, qmo, e]
theorem qbv (k : Nat) (hk : 2000000 ≤ k) (a0 : Int) (a1z : Bool) (a1 : List (Int × Int × Int)) (a2z : Bool) (a2 : List Int) (a3z : Bool) (a3 : List Int) (a4z : Bool) (a4 : List Int) (hl : (a1.length : Int) ≤ 1048576) (hb : (a4.length : Int) ≤ 1048576) : go (k + 6) impl_State_hasCells [(.agg [(.int .i64 (a0)), (.arr false (a1z) (.r3 (a1))), (.arr false (a2z) (.ints .i64 (a2))), (.arr false (a3z) (.ints .i64 (a3))), (.arr false (a4z) (.ints .i64 (a4)))])] = some [.bool (decide (a2.length = a1.length) && (decide (a3.length = a1.length) && (decide ((a4.length : Int) = a0) && (qmo a2 a3 && (qav a4 && decide (isum a2 ≤ 10000000))))))] := by
  rw [qf7]
  by_cases h1 : a2.length = a1.length
  case neg => simp (disch := omega) only [qay, nth0, nth1, nth2, nth3, bit, qef, qeg, qer, qew, qex, qey, qez, qe0, qe1, qe2, qeh, qei, qej, qek, qel, qem, qen, qeo, qep, qeq, qes, qet, qeu, qev, qrf, qre, qrg, qnd, qn3, qn5, qjh, qa5, qqo, nI, qfb, qe9, Bool.not_true, Bool.not_false, Bool.and_true, Bool.true_and, Bool.and_false, Bool.false_and, Bool.or_true, Bool.true_or, Bool.or_false, Bool.false_or, beq_self_eq_true, dTT, dFF, dT, dF, bigI, big0, qnc, qr4, qr5, List.length_set, List.length_replicate, Int.toNat_natCast, qed, qee, imax, imin]
  by_cases h2 : a3.length = a1.length
  case neg => simp (disch := omega) only [qay, nth0, nth1, nth2, nth3, bit, qef, qeg, qer, qew, qex, qey, qez, qe0, qe1, qe2, qeh, qei, qej, qek, qel, qem, qen, qeo, qep, qeq, qes, qet, qeu, qev, qrf, qre, qrg, qnd, qn3, qn5, qjh, qa5, qqo, nI, qfb, qe9, Bool.not_true, Bool.not_false, Bool.and_true, Bool.true_and, Bool.and_false, Bool.false_and, Bool.or_true, Bool.true_or, Bool.or_false, Bool.false_or, beq_self_eq_true, dTT, dFF, dT, dF, bigI, big0, qnc, qr4, qr5, List.length_set, List.length_replicate, Int.toNat_natCast, qed, qee, imax, imin]
  by_cases h3 : (a4.length : Int) = a0
  case neg => simp (disch := omega) only [qay, nth0, nth1, nth2, nth3, bit, qef, qeg, qer, qew, qex, qey, qez, qe0, qe1, qe2, qeh, qei, qej, qek, qel, qem, qen, qeo, qep, qeq, qes, qet, qeu, qev, qrf, qre, qrg, qnd, qn3, qn5, qjh, qa5, qqo, nI, qfb, qe9, Bool.not_true, Bool.not_false, Bool.and_true, Bool.true_and, Bool.and_false, Bool.false_and, Bool.or_true, Bool.true_or, Bool.or_false, Bool.false_or, beq_self_eq_true, dTT, dFF, dT, dF, bigI, big0, qnc, qr4, qr5, List.length_set, List.length_replicate, Int.toNat_natCast, qed, qee, imax, imin]
  simp (disch := omega) only [qay, nth0, nth1, nth2, nth3, bit, qef, qeg, qer, qew, qex, qey, qez, qe0, qe1, qe2, qeh, qei, qej, qek, qel, qem, qen, qeo, qep, qeq, qes, qet, qeu, qev, qrf, qre, qrg, qnd, qn3, qn5, qjh, qa5, qqo, nI, qfb, qe9, Bool.not_true, Bool.not_false, Bool.and_true, Bool.true_and, Bool.and_false, Bool.false_and, Bool.or_true, Bool.true_or, Bool.or_false, Bool.false_or, beq_self_eq_true, dTT, dFF, dT, dF, bigI, big0, qnc, qr4, qr5, List.length_set, List.length_replicate, Int.toNat_natCast, qed, qee, imax, imin, qa8]
  cases h5 : qav a4
  · cases qmo a2 a3 <;> rfl
  have e := qlo k hk [] a0 a1z a2z a3z a4z a1 a2 a3 a4 (by omega) (by omega) [] (fun hm => by
    have hx := (qmq a2 a3 (by omega) hm).1
    exact qb4 _ (by omega) _ _ (by omega) (fun x hh => by have := hx x hh; omega)) true (k + 5) 0 (by omega) (by omega) (fun h => h)
  simp only [List.drop_zero] at e
  simp only [Bool.not_true, qe9, Bool.true_and]
  exact e
theorem qbo (k : Nat) (hk : 2000000 ≤ k) (a0 : Int) (a1z : Bool) (a1 : List (Int × Int × Int)) (a2z : Bool) (a2 : List Int) (a3z : Bool) (a3 : List Int) (a4z : Bool) (a4 : List Int) (hl : (a1.length : Int) ≤ 1048576) (hb : (a4.length : Int) ≤ 1048576) : go (k + 8) impl_StateOk [(.agg [(.int .i64 (a0)), (.arr false (a1z) (.r3 (a1))), (.arr false (a2z) (.ints .i64 (a2))), (.arr false (a3z) (.ints .i64 (a3))), (.arr false (a4z) (.ints .i64 (a4)))])] = some [.bool (stOk a0 a1 a2 a3 a4)] := by
  rw [qf6]
  simp (disch := omega) only [qay, nth0, nth1, nth2, nth3, bit, qef, qeg, qer, qew, qex, qey, qez, qe0, qe1, qe2, qeh, qei, qej, qek, qel, qem, qen, qeo, qep, qeq, qes, qet, qeu, qev, qrf, qre, qrg, qnd, qn3, qn5, qjh, qa5, qqo, nI, qfb, qe9, Bool.not_true, Bool.not_false, Bool.and_true, Bool.true_and, Bool.and_false, Bool.false_and, Bool.or_true, Bool.true_or, Bool.or_false, Bool.false_or, beq_self_eq_true, dTT, dFF, dT, dF, bigI, big0, qnc, qr4, qr5, List.length_set, List.length_replicate, Int.toNat_natCast, qed, qee, imax, imin, qbi, qbv]
  unfold stOk
  cases qas a0 a1 <;> rfl
end Go.Proofs.YtjfjniebmdafeaaGreatDoor
end
section
namespace Go.Proofs.YtjfjniebmdafeaaGreatDoor
open Go.Ev
theorem qh9 (k : Nat) (a0 : Int) (a1z : Bool) (a1 : List (Int × Int × Int)) (a2z : Bool) (a2 : List Int) (a3z : Bool) (a3 : List Int) (a4z : Bool) (a4 : List Int) (b : Int) : go (k + 1) spec_l09Surface [(.agg [(.int .i64 (a0)), (.arr false (a1z) (.r3 (a1))), (.arr false (a2z) (.ints .i64 (a2))), (.arr false (a3z) (.ints .i64 (a3))), (.arr false (a4z) (.ints .i64 (a4)))]), (.int .i64 (b))] =
 cond (decide ((0 : Int) ≤ b) && decide (b < nI (List.length a1)))
 (cond (decide ((0 : Int) ≤ Prod.fst (List.getD a1 (Int.toNat b) zz3)) && decide (Prod.fst (List.getD a1 (Int.toNat b) zz3) < nI (List.length a4)))
 (cond (decide ((0 : Int) ≤ b) && decide (b < nI (List.length a2)))
 (cond (decide ((0 : Int) ≤ IntKind.wrap IntKind.u64 (Prod.fst (Prod.snd (List.getD a1 (Int.toNat b) zz3)))))
 (some [(.int .i64 (IntKind.wrap .i64 (List.getD a4 (Int.toNat (Prod.fst (List.getD a1 (Int.toNat b) zz3))) (0 : Int) + IntKind.wrap .i64 (List.getD a2 (Int.toNat b) (0 : Int) * (2 : Int) ^ shiftN .i64 (IntKind.wrap IntKind.u64 (Prod.fst (Prod.snd (List.getD a1 (Int.toNat b) zz3))))))))])
 (none))
 (none))
 (none))
 (none) := by kernel_rfl
theorem qf9 (k : Nat) (a0 : Int) (a1z : Bool) (a1 : List (Int × Int × Int)) (a2z : Bool) (a2 : List Int) (a3z : Bool) (a3 : List Int) (a4z : Bool) (a4 : List Int) (b : Int) : go (k + 1) impl_State_surface [(.agg [(.int .i64 (a0)), (.arr false (a1z) (.r3 (a1))), (.arr false (a2z) (.ints .i64 (a2))), (.arr false (a3z) (.ints .i64 (a3))), (.arr false (a4z) (.ints .i64 (a4)))]), (.int .i64 (b))] =
 cond (decide ((0 : Int) ≤ b) && decide (b < nI (List.length a1)))
 (cond (decide ((0 : Int) ≤ Prod.fst (List.getD a1 (Int.toNat b) zz3)) && decide (Prod.fst (List.getD a1 (Int.toNat b) zz3) < nI (List.length a4)))
 (cond (decide ((0 : Int) ≤ b) && decide (b < nI (List.length a2)))
 (cond (decide ((0 : Int) ≤ Prod.fst (Prod.snd (List.getD a1 (Int.toNat b) zz3))))
 (some [(.int .i64 (IntKind.wrap .i64 (List.getD a4 (Int.toNat (Prod.fst (List.getD a1 (Int.toNat b) zz3))) (0 : Int) + IntKind.wrap .i64 (List.getD a2 (Int.toNat b) (0 : Int) * (2 : Int) ^ shiftN .i64 (Prod.fst (Prod.snd (List.getD a1 (Int.toNat b) zz3)))))))])
 (none))
 (none))
 (none))
 (none) := by kernel_rfl
theorem qh7 (k : Nat) (a b : Int) : go (k + 1) spec_l09Gap [(.int .i64 (a)), (.int .i64 (b))] =
 cond (decide (b < a))
 (some [(.int .i64 (IntKind.wrap .i64 (a - b)))])
 (some [(.int .i64 (IntKind.wrap .i64 (b - a)))]) := by kernel_rfl

end Go.Proofs.YtjfjniebmdafeaaGreatDoor
end
section
namespace Go.Proofs.YtjfjniebmdafeaaGreatDoor
open Go.Ev
theorem qrx {l : Int} (h : inR l 0 4 = true) : 1 ≤ qrw l ∧ qrw l ≤ 16 := by
  rcases lev h with rfl | rfl | rfl | rfl | rfl <;> decide
theorem qrv {x : Cell} (h : idOk x.1 x.2.1 x.2.2 = true) : qqc x.1 x.2.1 x.2.2 = x.1 * 16 + x.2.2 * qrw x.2.1 ∧ 0 ≤ x.2.2 * qrw x.2.1 ∧ 1 ≤ qrw x.2.1 := by
  have := qjc h
  exact ⟨by simp [qqc, h], (iw h).1, (qrx this.2.2.1).1⟩
theorem qm1 : ∀ (l : List Cell) (r p : Int), qmx r p l = true → 1 ≤ r ∧ r ≤ 8 ∧ p + l.length ≤ 16 * r ∧ (∀ i, i < l.length → 0 ≤ (l.getD i zz3).1 ∧ (l.getD i zz3).1 < r ∧ idOk (l.getD i zz3).1 (l.getD i zz3).2.1 (l.getD i zz3).2.2 = true) ∧ (l = [] → p = 16 * r)
  | [], r, p, h => by
    simp only [qmx, Bool.and_eq_true, qjf, decide_eq_true_eq] at h
    simp; omega
  | x :: l, r, p, h => by
    simp only [qmx, Bool.and_eq_true, decide_eq_true_eq] at h
    obtain ⟨h1, h2, h3⟩ := h
    have w := qrv h1
    have ih := qm1 l r _ h3
    have ds := qjc h1
    refine ⟨ih.1, ih.2.1, by simp only [List.length_cons]; omega, fun i hi => ?_, by simp⟩
    cases i with
    | zero => simp only [List.getD_cons_zero]; refine ⟨by omega, by omega, h1⟩
    | succ i => simp only [List.getD_cons_succ]; exact ih.2.2.2.1 i (by simpa using hi)
theorem qm2 {l : List Cell} {r : Int} (h : qmx r 0 l = true) : 1 ≤ l.length ∧ l.length ≤ 128 := by
  have f := qm1 l r 0 h
  cases l with
  | nil => have := f.2.2.2.2 rfl; omega
  | cons x l => simp only [List.length_cons] at f ⊢; omega
structure StF (r : Int) (l : List Cell) (m t b : List Int) : Prop where
  mesh : qmx r 0 l = true
  bal : unb l < 0
  ml : m.length = l.length
  tl : t.length = l.length
  bl : (b.length : Int) = r
  mt : qmo m t = true
  bed : qav b = true
  sum : isum m ≤ 10000000
theorem stF {r : Int} {l : List Cell} {m t b : List Int} : stOk r l m t b = true ↔ StF r l m t b := by
  unfold stOk qas
  simp only [Bool.and_eq_true, decide_eq_true_eq]
  exact ⟨fun h => ⟨h.1.1, h.1.2, h.2.1, h.2.2.1, h.2.2.2.1, h.2.2.2.2.1, h.2.2.2.2.2.1, h.2.2.2.2.2.2⟩, fun h => ⟨⟨h.mesh, h.bal⟩, h.ml, h.tl, h.bl, h.mt, h.bed, h.sum⟩⟩
theorem shp {l : Int} (h : inR l 0 4 = true) : (2 : Int) ^ shiftN .i64 l = pow2 l := by
  rcases lev h with rfl | rfl | rfl | rfl | rfl <;> simp [sh0, sh1, sh2, sh3, sh4, p20, p21, p22, p23, p24]
theorem mulp {m l : Int} (h : inR l 0 4 = true) (h0 : 0 ≤ m) : m ≤ m * pow2 l ∧ m * pow2 l ≤ 16 * m := by
  rcases lev h with rfl | rfl | rfl | rfl | rfl <;> simp only [p20, p21, p22, p23, p24] <;> omega
section
variable {r : Int} {l : List Cell} {m t b : List Int}
theorem StF.len (F : StF r l m t b) : 1 ≤ l.length ∧ l.length ≤ 128 := qm2 F.mesh
theorem StF.rr (F : StF r l m t b) : 1 ≤ r ∧ r ≤ 8 := ⟨(qm1 l r 0 F.mesh).1, (qm1 l r 0 F.mesh).2.1⟩
theorem StF.lev (F : StF r l m t b) (i : Nat) : inR (l.getD i zz3).2.1 0 4 = true := by
  have := qm3 l r 0 F.mesh i
  simp only [qla] at this
  rw [qjf]; exact this
theorem StF.root (F : StF r l m t b) {i : Nat} (h : i < l.length) : 0 ≤ (l.getD i zz3).1 ∧ (l.getD i zz3).1 < r := ⟨((qm1 l r 0 F.mesh).2.2.2.1 i h).1, ((qm1 l r 0 F.mesh).2.2.2.1 i h).2.1⟩
theorem StF.at (F : StF r l m t b) (i : Nat) : 0 ≤ m.getD i 0 ∧ m.getD i 0 ≤ 10000000 ∧ 0 ≤ t.getD i 0 ∧ t.getD i 0 ≤ 1000 * m.getD i 0 := qmp m t (by rw [F.ml, F.tl]) F.mt i
theorem StF.bedAt (F : StF r l m t b) (i : Nat) : 0 ≤ b.getD i 0 ∧ b.getD i 0 ≤ 1000000 := by
  by_cases h : i < b.length
  · exact qaw b F.bed _ (qja h 0)
  · rw [qi9 (by omega)]; omega
theorem StF.mmem (F : StF r l m t b) : ∀ x ∈ m, 0 ≤ x ∧ x ≤ 1000000000000 := fun x hx => by have := (qmq m t (by rw [F.ml, F.tl]) F.mt).1 x hx; omega
theorem StF.tmem (F : StF r l m t b) : ∀ x ∈ t, 0 ≤ x ∧ x ≤ 1000000000000 := fun x hx => by have := (qmq m t (by rw [F.ml, F.tl]) F.mt).2 x hx; omega
theorem StF.msum (F : StF r l m t b) : 0 ≤ isum m ∧ isum m ≤ 10000000 := ⟨(qjo m F.mmem).1, F.sum⟩
theorem StF.tsum (F : StF r l m t b) : 0 ≤ isum t ∧ isum t ≤ 128000000000000 := by
  have h := qjo t F.tmem
  have := F.len; have := F.tl
  refine ⟨h.1, ?_⟩
  have : (t.length : Int) ≤ 128 := by omega
  calc isum t ≤ 1000000000000 * (t.length : Int) := h.2
    _ ≤ 1000000000000 * 128 := Int.mul_le_mul_of_nonneg_left this (by omega)
end
def surf (l : List Cell) (m b : List Int) (i : Nat) : Int := b.getD (l.getD i zz3).1.toNat 0 + m.getD i 0 * pow2 (l.getD i zz3).2.1
theorem qqv {r : Int} {l : List Cell} {m t b : List Int} (F : StF r l m t b) (i : Nat) : 0 ≤ surf l m b i ∧ surf l m b i ≤ 161000000 := by
  have h1 := F.bedAt (l.getD i zz3).1.toNat
  have h2 := F.at i
  have h3 := mulp (F.lev i) h2.1
  unfold surf; omega
theorem qdv (k : Nat) (hk : 2000000 ≤ k) (r : Int) (z1 z2 z3 z4 : Bool) (l : List Cell) (m t b : List Int) (F : StF r l m t b) (i : Nat) (hi : i < l.length) :
    go (k + 1) spec_l09Surface [.agg [.int .i64 r, .arr false z1 (.r3 l), .arr false z2 (.ints .i64 m), .arr false z3 (.ints .i64 t), .arr false z4 (.ints .i64 b)], .int .i64 (i : Int)] = some [.int .i64 (surf l m b i)] := by
  rw [qh9]
  have h1 := F.root hi; have h2 := F.ml; have h3 := F.bl; have h4 := F.lev i; have h5 := lev0 h4; have h6 := F.at i; have h7 := qqv F i; have h8 := mulp h4 h6.1; have h9 := F.len
  unfold surf at h7 ⊢
  simp (disch := omega) only [qay, nth0, nth1, nth2, nth3, bit, qef, qeg, qer, qew, qex, qey, qez, qe0, qe1, qe2, qeh, qei, qej, qek, qel, qem, qen, qeo, qep, qeq, qes, qet, qeu, qev, qrf, qre, qrg, qnd, qn3, qn5, qjh, qa5, qqo, nI, qfb, qe9, Bool.not_true, Bool.not_false, Bool.and_true, Bool.true_and, Bool.and_false, Bool.false_and, Bool.or_true, Bool.true_or, Bool.or_false, Bool.false_or, beq_self_eq_true, dTT, dFF, dT, dF, bigI, big0, qnc, qr4, qr5, List.length_set, List.length_replicate, Int.toNat_natCast, qed, qee, imax, imin, shp h4]
theorem qb5 (k : Nat) (hk : 2000000 ≤ k) (r : Int) (z1 z2 z3 z4 : Bool) (l : List Cell) (m t b : List Int) (F : StF r l m t b) (i : Nat) (hi : i < l.length) :
    go (k + 1) impl_State_surface [.agg [.int .i64 r, .arr false z1 (.r3 l), .arr false z2 (.ints .i64 m), .arr false z3 (.ints .i64 t), .arr false z4 (.ints .i64 b)], .int .i64 (i : Int)] = some [.int .i64 (surf l m b i)] := by
  rw [qf9]
  have h1 := F.root hi; have h2 := F.ml; have h3 := F.bl; have h4 := F.lev i; have h5 := lev0 h4; have h6 := F.at i; have h7 := qqv F i; have h8 := mulp h4 h6.1; have h9 := F.len
  unfold surf at h7 ⊢
  simp (disch := omega) only [qay, nth0, nth1, nth2, nth3, bit, qef, qeg, qer, qew, qex, qey, qez, qe0, qe1, qe2, qeh, qei, qej, qek, qel, qem, qen, qeo, qep, qeq, qes, qet, qeu, qev, qrf, qre, qrg, qnd, qn3, qn5, qjh, qa5, qqo, nI, qfb, qe9, Bool.not_true, Bool.not_false, Bool.and_true, Bool.true_and, Bool.and_false, Bool.false_and, Bool.or_true, Bool.true_or, Bool.or_false, Bool.false_or, beq_self_eq_true, dTT, dFF, dT, dF, bigI, big0, qnc, qr4, qr5, List.length_set, List.length_replicate, Int.toNat_natCast, qed, qee, imax, imin, shp h4]
def gap (a b : Int) : Int := if b < a then a - b else b - a
theorem qdt (k : Nat) (hk : 2000000 ≤ k) (a : Int) (b : Int) (ha : -1000000000000 ≤ a ∧ a ≤ 1000000000000) (hb : -1000000000000 ≤ b ∧ b ≤ 1000000000000) : go (k + 1) spec_l09Gap [(.int .i64 (a)), (.int .i64 (b))] = some [.int .i64 (gap a b)] := by
  rw [qh7]
  unfold gap
  by_cases h : b < a
  · simp (disch := omega) only [qay, nth0, nth1, nth2, nth3, bit, qef, qeg, qer, qew, qex, qey, qez, qe0, qe1, qe2, qeh, qei, qej, qek, qel, qem, qen, qeo, qep, qeq, qes, qet, qeu, qev, qrf, qre, qrg, qnd, qn3, qn5, qjh, qa5, qqo, nI, qfb, qe9, Bool.not_true, Bool.not_false, Bool.and_true, Bool.true_and, Bool.and_false, Bool.false_and, Bool.or_true, Bool.true_or, Bool.or_false, Bool.false_or, beq_self_eq_true, dTT, dFF, dT, dF, bigI, big0, qnc, qr4, qr5, List.length_set, List.length_replicate, Int.toNat_natCast, qed, qee, imax, imin]; rw [if_pos h]
  · simp (disch := omega) only [qay, nth0, nth1, nth2, nth3, bit, qef, qeg, qer, qew, qex, qey, qez, qe0, qe1, qe2, qeh, qei, qej, qek, qel, qem, qen, qeo, qep, qeq, qes, qet, qeu, qev, qrf, qre, qrg, qnd, qn3, qn5, qjh, qa5, qqo, nI, qfb, qe9, Bool.not_true, Bool.not_false, Bool.and_true, Bool.true_and, Bool.and_false, Bool.false_and, Bool.or_true, Bool.true_or, Bool.or_false, Bool.false_or, beq_self_eq_true, dTT, dFF, dT, dF, bigI, big0, qnc, qr4, qr5, List.length_set, List.length_replicate, Int.toNat_natCast, qed, qee, imax, imin]; rw [if_neg h]
end Go.Proofs.YtjfjniebmdafeaaGreatDoor
end
section
namespace Go.Proofs.YtjfjniebmdafeaaGreatDoor
open Go.RowKit Go.Lib Go.Ev Go.Shelf Go.Sort
theorem qne : ∀ f g, An1.ext f = some g → ∀ ds rs, g ds = some rs → Contract Tryz.prog f (An1.mode f) ds rs := fun f g h => by cases h
theorem qjz (r : Int) (z : Bool) (l : List Cell) (hl : (l.length : Int) ≤ 1048576) : Contract Tryz.prog 74 [] [.agg [.int .i64 r, .arr false z (.r3 l)]] [.bool (qmx r 0 l)] := by
  have e : ev Tryz.prog An1 (2000000 + 6) 74 [.agg [.int .i64 r, .arr false z (.r3 l)]] = some [.bool (qmx r 0 l)] := qbk 2000000 (by omega) r z l hl
  have h := ev_contract good qne e
  exact h
theorem qa4 {P : Program} {F : Nat} {ds : List D} {b : Bool} {w : World} {args : Array Value} {FF : Feet} (h : Contract P F [] ds [.bool b]) (hk : Kept w) (hr : RepDs w ds args.toList FF) (hs : Sep FF) (hn : ∀ x off, ¬ ownOf FF x off) : Calls P F args w fun e w' => e = .returned (.bool b) ∧ RowKit.Below w.heap.size w w' := by
  obtain ⟨fn, _, _, hc⟩ := h
  refine (hc w args FF hk (fun x _ off => hn x.1 off) hr hs).mono ?_
  rintro e w' ⟨outs, F', rfl, hl, hrep, _, hfr, _⟩
  have hm : ∀ (vs : List Value), muts ([] : List Bool) vs = [] := by
    intro vs
    induction vs with
    | nil => rfl
    | cons v vs ih => simp [muts, ih]
  rw [hm, List.append_nil] at hrep
  simp only [RepDs, RepD] at hrep
  obtain ⟨u, us, F1, F2, rfl, _, ⟨rfl, _⟩, rfl, _⟩ := hrep
  exact ⟨rfl, Fr.below (hfr.mono fun b off _ h => (hn b off h).elim)⟩
theorem Hid.mk' {p : Prop} (h : p) : Hid p := h
set_option maxHeartbeats 1000000 in
theorem qi3 (r : Int) (a : Option Addr) (n c : Nat) (w : World) (hM : ∀ W, RowKit.Below w.heap.size w W → Calls Tryz.prog 74 #[.agg #[.int .i64 r, .slice a n c]] W fun e w' => e = .returned (.bool false) ∧ RowKit.Below W.heap.size W w') :
    Calls Tryz.prog 31 #[.agg #[.int .i64 r, .slice a n c]] w fun e w' => e = .returned (.string ⟨#[]⟩) ∧ RowKit.Below w.heap.size w w' := by
  have b0 : RowKit.Below w.heap.size w (w.alloc (.cells #[.int .i64 r, .slice a n c] 26)) := (RowKit.Below.refl _ w).alloc (Nat.le_refl _) _
  have hM' := hM _ b0
  clear hM
  go_enter Tryz.func31, Tryz.ntmps31
  go_wp2_with (go_at_call 74; refine hM'.mono ?_)
  rintro e W1 ⟨rfl, b1⟩
  go_wp2
  go_ret
  exact ⟨rfl, b0.trans (b1.mono b0.size)⟩
theorem qk7 {l : List Cell} {b : Addr} {w W wr : World} {N k : Nat}
    (hc : ∀ i, i < l.length → w.cell? (b.add (i * 3)) = some (.int .i64 (l.getD i zz3).1) ∧ w.cell? (b.add (i * 3 + 1)) = some (.int .i64 (l.getD i zz3).2.1) ∧ w.cell? (b.add (i * 3 + 2)) = some (.int .i64 (l.getD i zz3).2.2))
    (hs : w.heap.size < N) (h1 : RowKit.Below w.heap.size w W) (h2 : RowKit.Below N W wr) (hlt : k < l.length) :
    ∃ x0 x1 x2 Ab Ao, l.getD k zz3 = (x0, x1, x2) ∧ b.add (k * 3) = ⟨Ab, Ao, none⟩ ∧ Ab < w.heap.size ∧ wr.cell? ⟨Ab, Ao, none⟩ = some (.int .i64 x0) ∧ wr.cell? ⟨Ab, Ao + 1, none⟩ = some (.int .i64 x1) ∧ wr.cell? ⟨Ab, Ao + 2, none⟩ = some (.int .i64 x2) := by
  have hcc := hc k hlt
  have hbl : ∀ q, (b.add q).block < w.heap.size := fun q => by have := World.block_lt_of_cell? w (b.add (k * 3)) hcc.1; rw [Go.Ev.addr_block] at this ⊢; exact this
  have kp : ∀ q, wr.cell? (b.add q) = w.cell? (b.add q) := fun q => (h2.cell (p := b.add q) (Nat.lt_trans (hbl q) hs)).trans (h1.cell (p := b.add q) (hbl q))
  have sp := World.cell?_spot hcc.1
  have e1 : b.add (k * 3 + 1) = (b.add (k * 3)).add 1 := (Addr.add_add _ _ _).symm
  have e2 : b.add (k * 3 + 2) = (b.add (k * 3)).add 2 := (Addr.add_add _ _ _).symm
  have d0 := (kp (k * 3)).trans hcc.1
  have d1 := (kp (k * 3 + 1)).trans hcc.2.1
  have d2 := (kp (k * 3 + 2)).trans hcc.2.2
  have hb0 := hbl (k * 3)
  rw [e1] at d1
  rw [e2] at d2
  generalize b.add (k * 3) = A at *
  obtain ⟨Ab, Ao, As⟩ := A
  simp only at sp
  subst sp
  rw [Addr.add_lit] at d1 d2
  exact ⟨_, _, _, Ab, Ao, rfl, rfl, hb0, d0, d1, d2⟩
theorem qan {T e : TypeId} {B b : Nat} {p : Value} {bs : List Value} {w w' : World} (h : BuilderAtF T e B b p bs w) (hb : RowKit.Below w.heap.size w w') : BuilderAtF T e B b p bs w' := by
  have hlt := h.lt
  obtain ⟨hB, v, hv, hown, hne⟩ := h
  exact ⟨hB, v, (hb.block b hlt).trans hv, hown.kept (row := none) ⟨hb.os, hb.tape, hb.output, hb.size, fun k hk _ => hb.block k hk⟩ (Classical.em _), hne⟩
theorem qjj {T e : TypeId} {B b : Nat} {bs : List Value} {w w' : World} (h : IsBuilderF T e B b bs w) (hb : RowKit.Below w.heap.size w w') : IsBuilderF T e B b bs w' := h.imp (fun h => qan h hb) (fun h => qan h hb)
theorem ws_k (B b : Nat) (bs : List Value) (s : ByteArray) (w : World) (h : IsBuilderF 117 5 B b bs w) (hlen : bs.length + s.size ≤ 140737488355328) (hBw : B ≤ w.heap.size) :
    Calls Tryz.prog 72 #[.pointer (some ⟨b, 0, none⟩), .string s] w fun e w' => e = .returned (.tuple #[.int .i64 s.size, .nilIface]) ∧ (BuilderAtF 117 5 B b (.pointer (some ⟨b, 0, none⟩)) (bs ++ strCells s) w' ∧ RowKit.Below B w w' ∧ OthersKept 5 (some b) w w') :=
  Any.Builder_WriteString_k Tryz.lays166 Tryz.Builder_Extra_166 B b bs s w h hlen hBw
theorem ss_f (B b : Nat) (l : List UInt8) (w : World) (h : IsBuilderF 117 5 B b (byteCells l) w) (hBw : B ≤ w.heap.size) :
    Calls Tryz.prog 73 #[.pointer (some ⟨b, 0, none⟩)] w fun e w' => e = .returned (.string ⟨l.toArray⟩) ∧ (IsBuilderF 117 5 B b (byteCells l) w' ∧ RowKit.Below B w w') :=
  Any.Builder_String_any_f Tryz.lays169 Tryz.Builder_Extra_169 B b l w h hBw
theorem qnk {wr W2 : World} {b q : Nat} {x0 x1 x2 : Int} (o2 : OthersKept 5 (some b) ((wr.alloc (.cells #[.int .i64 x0, .int .i64 x1, .int .i64 x2] 81)).drewN q) W2) (hne : b < wr.heap.size) : W2.cell? ⟨wr.heap.size, 1, none⟩ = some (.int .i64 x1) := by
  have h := o2 wr.heap.size (.cells #[.int .i64 x0, .int .i64 x1, .int .i64 x2] 81 (0, 0)) (heap_alloc_new _ _) (by intro h; have := Option.some.inj h; omega) (fun c fz h => by cases h)
  simp [World.cell?, h]
theorem qqi {wr W : World} {o : Obj} {q B : Nat} (hB : B ≤ wr.heap.size) (h : RowKit.Below B ((wr.alloc o).drewN q) W) : RowKit.Below B wr W :=
  ((RowKit.Below.refl _ wr).alloc hB o).trans ((below_drewN _ _ _).trans h)
theorem qqh {wr W : World} {o : Obj} {q : Nat} (h : RowKit.Below ((wr.alloc o).drewN q).heap.size ((wr.alloc o).drewN q) W) : RowKit.Below wr.heap.size wr W := by
  have s1 : ((wr.alloc o).drewN q).heap.size = wr.heap.size + 1 := by show (wr.alloc o).heap.size = _; simp
  exact ((RowKit.Below.refl _ wr).alloc (Nat.le_refl _) o).trans ((below_drewN _ _ _).trans (h.mono (by omega)))
theorem qi1 (l : List Cell) (hv : ∀ i, i < l.length → inI64 (l.getD i zz3).2.1 = true) : ∀ n, n ≤ l.length → (fmTo l n).length ≤ 21 * n
  | 0, h => by simp [fmTo]
  | n + 1, h => by
    have a := qi1 l hv n (by omega)
    have b : (Lib.itoa (l.getD n (0, 0, 0)).2.1).length ≤ 20 := qjv _ (hv n (by omega))
    have c : (fmB l n).length ≤ 21 := by
      unfold fmB
      rw [List.length_append]
      split <;> simp only [List.length_cons, List.length_nil] <;> omega
    rw [fmTo, List.length_append]; omega
theorem qru (s : List UInt8) (h : s.length ≤ 21) {L : List Value} (hL : L.length ≤ 5000) : L.length + (⟨s.toArray⟩ : ByteArray).size ≤ 140737488355328 := by
  have : (⟨s.toArray⟩ : ByteArray).size = s.length := List.size_toArray ..
  omega
set_option maxHeartbeats 2000000 in
theorem qi4 (r : Int) (l : List Cell) (b : Addr) (c : Nat) (w : World) (hk : Kept w) (hl : l.length ≤ 128) (hv : ∀ i, i < l.length → inI64 (l.getD i zz3).2.1 = true)
    (hc : ∀ i, i < l.length → w.cell? (b.add (i * 3)) = some (.int .i64 (l.getD i zz3).1) ∧ w.cell? (b.add (i * 3 + 1)) = some (.int .i64 (l.getD i zz3).2.1) ∧ w.cell? (b.add (i * 3 + 2)) = some (.int .i64 (l.getD i zz3).2.2))
    (hM : ∀ W, RowKit.Below w.heap.size w W → Calls Tryz.prog 74 #[.agg #[.int .i64 r, .slice (some b) l.length c]] W fun e w' => e = .returned (.bool true) ∧ RowKit.Below W.heap.size W w') :
    Calls Tryz.prog 31 #[.agg #[.int .i64 r, .slice (some b) l.length c]] w fun e w' => e = .returned (.string ⟨(fmTo l l.length).toArray⟩) ∧ RowKit.Below w.heap.size w w' := by
  have b0 : RowKit.Below w.heap.size w (w.alloc (.cells #[.int .i64 r, .slice (some b) l.length c] 26)) := (RowKit.Below.refl _ w).alloc (Nat.le_refl _) _
  have hM' := hM _ b0
  clear hM
  go_enter Tryz.func31, Tryz.ntmps31
  go_wp2_with (go_at_call 74; refine hM'.mono ?_)
  rintro e W1 ⟨rfl, b1⟩
  clear hM'
  have hs1 : w.heap.size < W1.heap.size := by have := b1.size; simp at this; omega
  have hb1 : W1.heap[w.heap.size]? = some (.cells #[.int .i64 r, .slice (some b) l.length c] 26 (0, 0)) := (b1.block _ (by simp)).trans (heap_alloc_new _ _)
  have hb2 : (W1.alloc (.cells #[.pointer none, .slice none 0 0] 117)).heap[w.heap.size]? = some (.cells #[.int .i64 r, .slice (some b) l.length c] 26 (0, 0)) := (RowKit.Below.heap_alloc _ _ _ hs1).trans hb1
  have e11 : (W1.alloc (.cells #[.pointer none, .slice none 0 0] 117)).cell? ⟨w.heap.size, 1, none⟩ = some (.slice (some b) l.length c) := by simp [World.cell?, hb2]
  have h0 : IsBuilderF 117 5 W1.heap.size W1.heap.size (byteCells (fmTo l 0)) (W1.alloc (.cells #[.pointer none, .slice none 0 0] 117)) := IsBuilderF.of (Lib.fresh_isBuilder 117 5 W1)
  have b2 : RowKit.Below w.heap.size w (W1.alloc (.cells #[.pointer none, .slice none 0 0] 117)) := (b0.trans (b1.mono b0.size)).alloc (by omega) _
  have H := Hid.mk' (And.intro h0 (And.intro b2 (And.intro hb2 hs1)))
  clear h0 b2 hb2 hb1 b0 b1
  go_wp2
  go_loopw [13] (fun i wr => ∃ k : Nat, k ≤ l.length ∧ i = .int .i64 k ∧ IsBuilderF 117 5 W1.heap.size W1.heap.size (byteCells (fmTo l k)) wr ∧ RowKit.Below W1.heap.size (W1.alloc (.cells #[.pointer none, .slice none 0 0] 117)) wr) (fun i _ => l.length - (RowKit.intOf i).toNat)
  case atStart => exact ⟨0, Nat.zero_le _, rfl, H.out.1, RowKit.Below.refl _ _⟩
  case round =>
    obtain ⟨k, hkl, rfl, hB, hnx⟩ := hrel
    have e12 : wr.cell? ⟨w.heap.size, 1, none⟩ = some (.slice (some b) l.length c) := (hnx.cell (by exact hs1)).trans e11
    clear e11
    by_cases hlt : k < l.length
    · obtain ⟨x0, x1, x2, Ab, Ao, hx, hA, hbA, c0, c1, c2⟩ := qk7 hc hs1 H.out.2.1 hnx hlt
      have hx1 : inI64 x1 = true := by have := hv k hlt; rw [hx] at this; exact this
      have hR : (byteCells (fmTo l k)).length ≤ 4000 := by
        have := qi1 l hv k hkl
        rw [byteCells_length]; omega
      have hI := qjv x1 hx1
      have bX : ∀ W, RowKit.Below wr.heap.size wr W → RowKit.Below w.heap.size w W := fun W h => H.out.2.1.trans ((hnx.trans (h.mono (Nat.le_trans (by simp) hnx.size))).mono (by omega))
      have bY : ∀ W, RowKit.Below wr.heap.size wr W → RowKit.Below W1.heap.size (W1.alloc (.cells #[.pointer none, .slice none 0 0] 117)) W := fun W h => hnx.trans (h.mono (Nat.le_trans (by simp) hnx.size))
      by_cases hk0 : k = 0
      · have hd : decide (0 < (k : Int)) = false := by simp; omega
        have hd2 : decide (0 < k) = false := by simp; omega
        have hd3 : ¬ 0 < k := by omega
        have hS : byteCells (fmTo l (k + 1)) = byteCells (fmTo l k) ++ byteCells (Lib.itoa x1) := by rw [fmTo, fmB, if_neg (by omega), hx, List.nil_append, byteCells_append]
        have K0 := Hid.mk' (And.intro hR (And.intro hI (And.intro hS (And.intro hB (And.intro bX bY)))))
        clear hk0 hx hS hv hc hR hI hB bX bY hbA
        go_wp2_with (fail)
        go_quiet (fail)
        go_wp2_with (go_at_call 40; refine (qi6 x1 hx1 _ (qj1 hk (K0.out.2.2.2.2.1 _ (qqh (RowKit.Below.refl _ _))))).mono ?_)
        rintro e W3 ⟨rfl, b3⟩
        have b3' := qqh b3
        clear b3
        go_wp2_with (go_at_call 72; refine (ws_k W1.heap.size W1.heap.size (byteCells (fmTo l k)) _ _ (qjj K0.out.2.2.2.1 b3') (qru _ (by have := K0.out.2.1; omega) (by have := K0.out.1; omega)) (Nat.le_trans (Nat.le_trans (by simp) hnx.size) b3'.size)).mono ?_)
        rintro e W4 ⟨rfl, h4, b4, _⟩
        go_wp2
        go_roundw
        case rel => exact ⟨k + 1, by omega, by go_num, Or.inr (by rw [K0.out.2.2.1]; exact h4), (K0.out.2.2.2.2.2 _ b3').trans b4⟩
        case measure => simp [RowKit.intOf]; omega
      · obtain ⟨y0, y1, y2, Pb, Po, hy, hP, hbP, p0, p1, p2⟩ := qk7 hc hs1 H.out.2.1 hnx (show k - 1 < l.length by omega)
        have hd : decide (0 < (k : Int)) = true := by simp; omega
        have hd2 : decide (0 < k) = true := by simp; omega
        have hd3 : 0 < k := by omega
        have hT : ((k : Int) - 1).toNat = k - 1 := by omega
        have hT2 : (k : Int) - 1 = ((k - 1 : Nat) : Int) := by omega
        have hlt2 : k - 1 < l.length := by omega
        have bA : RowKit.Below wr.heap.size wr (wr.alloc (.cells #[.int .i64 x0, .int .i64 x1, .int .i64 x2] 81)) := (RowKit.Below.refl _ wr).alloc (Nat.le_refl _) _
        have hwr : W1.heap.size < wr.heap.size := Nat.lt_of_lt_of_le (by simp) hnx.size
        have e13 : (wr.alloc (.cells #[.int .i64 x0, .int .i64 x1, .int .i64 x2] 81)).cell? ⟨w.heap.size, 1, none⟩ = some (.slice (some b) l.length c) := (bA.cell (by exact Nat.lt_trans hs1 hwr)).trans e12
        have p0' : (wr.alloc (.cells #[.int .i64 x0, .int .i64 x1, .int .i64 x2] 81)).cell? ⟨Pb, Po, none⟩ = some (.int .i64 y0) := (bA.cell (by exact Nat.lt_trans hbP (Nat.lt_trans hs1 hwr))).trans p0
        by_cases hq : x0 = y0
        · have hS : byteCells (fmTo l (k + 1)) = byteCells (fmTo l k) ++ byteCells (Lib.itoa x1) := by rw [fmTo, fmB, hx, hy, if_neg (by simp [hq]), List.nil_append, byteCells_append]
          have K0 := Hid.mk' (And.intro hR (And.intro hI (And.intro hS (And.intro hB (And.intro bX bY)))))
          clear hk0 hx hy hS hv hc hR hI hB bX bY hbA hbP bA hwr p0 p1 p2
          subst hq
          go_wp2_with (fail)
          go_quiet (fail)
          go_wp2_with (go_at_call 40; refine (qi6 x1 hx1 _ (qj1 hk (K0.out.2.2.2.2.1 _ (qqh (RowKit.Below.refl _ _))))).mono ?_)
          rintro e W3 ⟨rfl, b3⟩
          have b3' := qqh b3
          clear b3
          go_wp2_with (go_at_call 72; refine (ws_k W1.heap.size W1.heap.size (byteCells (fmTo l k)) _ _ (qjj K0.out.2.2.2.1 b3') (qru _ (by have := K0.out.2.1; omega) (by have := K0.out.1; omega)) (Nat.le_trans (Nat.le_trans (by simp) hnx.size) b3'.size)).mono ?_)
          rintro e W4 ⟨rfl, h4, b4, _⟩
          go_wp2
          go_roundw
          case rel => exact ⟨k + 1, by omega, by go_num, Or.inr (by rw [K0.out.2.2.1]; exact h4), (K0.out.2.2.2.2.2 _ b3').trans b4⟩
          case measure => simp [RowKit.intOf]; omega
        · have hS : byteCells (fmTo l (k + 1)) = byteCells (fmTo l k) ++ byteCells [124] ++ byteCells (Lib.itoa x1) := by rw [fmTo, fmB, hx, hy, if_pos ⟨hd3, hq⟩, byteCells_append, byteCells_append, List.append_assoc]
          have K0 := Hid.mk' (And.intro hR (And.intro hI (And.intro hS (And.intro hB (And.intro bX bY)))))
          have HW := Hid.mk' hwr
          clear hk0 hx hy hS hv hc hR hI hB bX bY hbA hbP bA hwr p0 p1 p2
          go_wp2_with (fail)
          go_quiet (fail)
          go_wp2_with (go_at_call 72; refine (ws_k W1.heap.size W1.heap.size (byteCells (fmTo l k)) _ _ (qjj K0.out.2.2.2.1 (qqh (RowKit.Below.refl _ _))) (qru [124] (by simp) (by have := K0.out.1; omega)) (Nat.le_trans (Nat.le_of_lt HW.out) (qqh (RowKit.Below.refl _ _)).size)).mono ?_)
          rintro e W2 ⟨rfl, h2, b2, o2⟩
          have x2c := qnk o2 HW.out
          have b2' := qqi (Nat.le_of_lt HW.out) b2
          have hwW : W1.heap.size ≤ W2.heap.size := Nat.le_trans (Nat.le_of_lt HW.out) b2'.size
          clear o2 b2
          have cF := qi6 x1 hx1 W2 (qj1 hk (H.out.2.1.trans ((hnx.trans b2').mono (Nat.le_of_lt hs1))))
          go_wp2_with (go_at_call 40; refine cF.mono ?_)
          rintro e W3 ⟨rfl, b3⟩
          clear x2c cF
          go_wp2_with (go_at_call 72; refine (ws_k W1.heap.size W1.heap.size (byteCells (fmTo l k) ++ strCells ⟨#[124]⟩) _ _ (qjj (Or.inr h2) b3) (qru _ (by have := K0.out.2.1; omega) (by have := K0.out.1; rw [List.length_append]; have : (strCells ⟨#[124]⟩).length = 1 := rfl; omega)) (Nat.le_trans hwW b3.size)).mono ?_)
          rintro e W4 ⟨rfl, h4, b4, _⟩
          go_wp2
          go_roundw
          case rel => exact ⟨k + 1, by omega, by go_num, Or.inr (by rw [K0.out.2.2.1]; exact h4), hnx.trans (b2'.trans ((b3.mono hwW).trans b4))⟩
          case measure => simp [RowKit.intOf]; omega
    · obtain rfl : k = l.length := by omega
      go_wp2_with (go_at_call 73; refine (ss_f W1.heap.size W1.heap.size (fmTo l l.length) _ hB (Nat.le_trans (by simp) hnx.size)).mono ?_)
      rintro e W2 ⟨rfl, _, b2⟩
      go_wp2
      go_ret
      exact ⟨rfl, H.out.2.1.trans ((hnx.trans b2).mono (Nat.le_of_lt hs1))⟩
theorem qm4 (r : Int) : ∀ (l : List Cell) (p : Int), meshGox r p l = qmx r p l
  | [], p => rfl
  | x :: l, p => by
    have h := qm4 r l (startOfx x.1 x.2.1 x.2.2 + widthx x.2.1)
    unfold meshGox qmx
    rw [h]; rfl
theorem qn4 : ∀ (l : List Cell) (i : Nat), i < l.length → (Arr.r3 l).cells[i * 3]? = some (.int .i64 (l.getD i zz3).1) ∧ (Arr.r3 l).cells[i * 3 + 1]? = some (.int .i64 (l.getD i zz3).2.1) ∧ (Arr.r3 l).cells[i * 3 + 2]? = some (.int .i64 (l.getD i zz3).2.2)
  | [], i, h => by simp at h
  | x :: l, 0, h => ⟨rfl, rfl, rfl⟩
  | x :: l, i + 1, h => by
    have e : (Arr.r3 (x :: l)).cells = .int .i64 x.1 :: .int .i64 x.2.1 :: .int .i64 x.2.2 :: (Arr.r3 l).cells := rfl
    have ih := qn4 l i (by simpa using h)
    rw [e, show (i + 1) * 3 = i * 3 + 1 + 1 + 1 by omega, show i * 3 + 1 + 1 + 1 + 1 = i * 3 + 1 + 1 + 1 + 1 from rfl]
    simp only [List.getElem?_cons_succ, List.getD_cons_succ]
    exact ih
theorem qnh (s : ByteArray) : okTs Tryz.prog [9] [.str s] = true := by kernel_rfl
theorem qjx (ds rs : List D) (h : fmeshGo ds = some rs) : Contract Tryz.prog 31 [] ds rs := by
  unfold fmeshGo at h
  split at h
  · rename_i r z l
    cases hn : decide (l.length ≤ 1048576)
    · rw [hn] at h; cases h
    rw [hn] at h
    have h := Option.some.inj (show some _ = some rs from h)
    subst h
    have hl : l.length ≤ 1048576 := of_decide_eq_true hn
    refine str_contract (fn := Tryz.f31) (S := 9) Tryz.func31 (by kernel_rfl) (by kernel_rfl) (qnh _) (fun w args FF hk hd => ?_)
    simp only [RepDs, RepD] at hd
    obtain ⟨u0, us0, F0, F0', e0, rfl, ⟨vs, rfl, hvs⟩, rfl, rfl⟩ := hd
    obtain ⟨u1, us1, F1, F1', e1, rfl, ⟨rfl, rfl⟩, u2, us2, F2, F2', rfl, rfl, ⟨p, rfl, rp, rfl⟩, rfl, rfl⟩ := hvs
    have hv : vs = #[.int .i64 r, .slice p.base p.len p.cap] := by rw [← Array.toArray_toList (xs := vs), e1]
    subst hv
    have ha : args = #[.agg #[.int .i64 r, .slice p.base p.len p.cap]] := by rw [← Array.toArray_toList (xs := args), e0]
    subst ha
    obtain ⟨r1, r2, r3, r4, r5, r6⟩ := id rp
    have r1' : l.length = p.len := r1
    have hM : ∀ b, qmx r 0 l = b → ∀ W, RowKit.Below w.heap.size w W → Calls Tryz.prog 74 #[.agg #[.int .i64 r, .slice p.base p.len p.cap]] W fun e w' => e = .returned (.bool b) ∧ RowKit.Below W.heap.size W w' := fun b hb W hW => by
      subst hb
      refine qa4 (FF := [(false, foot p (.arr false z (.r3 l)))]) (qjz r z l (by omega)) (qj1 hk hW) ?_ (by simp [Go.Ev.Sep]) ?_
      · simp only [RepDs, RepD]
        exact ⟨_, [], _, [], rfl, (List.append_nil _).symm, ⟨_, rfl, _, _, [], _, rfl, rfl, ⟨rfl, rfl⟩, _, [], _, [], rfl, (List.append_nil _).symm, ⟨p, rfl, rp.frame (fr_of_below (M := fun _ _ => False) hW) (fun _ _ _ h => h), rfl⟩, rfl, rfl⟩, rfl, rfl⟩
      · rintro x off ⟨A, hA, ho, _⟩
        rw [List.mem_singleton] at hA
        subst hA
        cases ho
    cases g : qmx r 0 l
    · have e : fmeshL r l = [] := by unfold fmeshL; rw [qm4, g]; rfl
      rw [e]
      exact qi3 r p.base p.len p.cap w (hM false g)
    · have L := qm2 g
      have e : fmeshL r l = fmTo l l.length := by unfold fmeshL; rw [qm4, g]; rfl
      have hM1 := hM true g
      rw [e]
      cases hb : p.base with
      | none => have := (r4 hb).2; omega
      | some b =>
        have hc := (r5 b hb).2
        rw [hb, ← r1'] at hM1
        rw [← r1']
        refine qi4 r l b p.cap w hk L.2 (fun i hi => ?_) (fun i hi => ?_) hM1
        · have h := qm3 l r 0 g i
          simp only [qla] at h
          unfold inI64
          rw [decide_eq_true (by omega : -9223372036854775808 ≤ (l.getD i zz3).2.1), decide_eq_true (by omega : (l.getD i zz3).2.1 ≤ 9223372036854775807)]; rfl
        · have c := qn4 l i hi
          exact ⟨hc _ _ c.1, hc _ _ c.2.1, hc _ _ c.2.2⟩
  · cases h
end Go.Proofs.YtjfjniebmdafeaaGreatDoor
end
section
namespace Go.Proofs.YtjfjniebmdafeaaGreatDoor
open Go.RowKit Go.Lib Go.Ev Go.Shelf Go.Sort
theorem qng (s : ByteArray) : okTs Tryz.prog [9] [.str s] = true := by kernel_rfl
theorem qjy (ds rs : List D) (h : itoaGo ds = some rs) : Contract Tryz.prog 80 [] ds rs := by
  unfold itoaGo at h
  split at h
  · rename_i n
    cases hn : inI64 n
    · rw [hn] at h; cases h
    rw [hn] at h
    have h := Option.some.inj (show some _ = some rs from h)
    subst h
    refine str_contract (fn := Tryz.f80) (S := 9) Tryz.func80 (by kernel_rfl) (by kernel_rfl) (qng _) (fun w args FF hk hd => ?_)
    simp only [RepDs, RepD] at hd
    obtain ⟨u, us, F1, F2, e0, rfl, ⟨rfl, rfl⟩, rfl, rfl⟩ := hd
    have ha : args = #[.int .i64 n] := by rw [← Array.toArray_toList (xs := args), e0]
    subst ha
    exact qjt n hn w hk
  · cases h
theorem qj0 (ds rs : List D) (h : spacedGo ds = some rs) : Contract Tryz.prog 30 [] ds rs := by
  unfold spacedGo at h
  split at h
  · rename_i wd z l
    cases hn : (decide (wd.size ≤ 1000) && (decide (l.length ≤ 1000) && l.all inI64))
    · rw [hn] at h; cases h
    rw [hn] at h
    have h := Option.some.inj (show some _ = some rs from h)
    subst h
    simp only [Bool.and_eq_true, decide_eq_true_eq, List.all_eq_true] at hn
    obtain ⟨hw, hl, hx⟩ := hn
    refine str_contract (fn := Tryz.f30) (S := 9) Tryz.func30 (by kernel_rfl) (by kernel_rfl) (qng _) (fun w args FF hk hd => ?_)
    simp only [RepDs, RepD] at hd
    obtain ⟨u0, us0, F0, F0', e0, rfl, ⟨rfl, rfl⟩, u1, us1, F1, F1', rfl, rfl, ⟨p, rfl, rp, rfl⟩, rfl, rfl⟩ := hd
    have ha : args = #[.string wd, .slice p.base p.len p.cap] := by rw [← Array.toArray_toList (xs := args), e0]
    subst ha
    obtain ⟨r1, r2, r3, r4, r5, r6⟩ := rp
    have r1' : l.length = p.len := r1
    cases hb : p.base with
    | none =>
      have h0 := (r4 hb).2
      have : l = [] := List.eq_nil_of_length_eq_zero (by omega)
      subst this
      rw [h0]
      exact qp1 wd p.cap w hk hw
    | some b =>
      have hc := (r5 b hb).2
      rw [← r1']
      refine qp2 wd l b p.cap w hk hw hl hx (fun i x hi => hc i _ ?_)
      show (l.map fun n => Value.int .i64 n)[i]? = _
      rw [List.getElem?_map, hi]; rfl
  · cases h
theorem withExt : ∀ f g, An.ext f = some g → ∀ ds rs, g ds = some rs → Contract Tryz.prog f (An.mode f) ds rs := by
  intro f g h ds rs hd
  by_cases h1 : f = 80
  · subst h1
    have e : An.ext 80 = some itoaGo := rfl
    rw [e] at h; cases h
    exact qjy ds rs hd
  by_cases h2 : f = 30
  · subst h2
    have e : An.ext 30 = some spacedGo := rfl
    rw [e] at h; cases h
    exact qj0 ds rs hd
  by_cases h3 : f = 31
  · subst h3
    have e : An.ext 31 = some fmeshGo := rfl
    rw [e] at h; cases h
    exact qjx ds rs hd
  have n3 : Nat.beq f 31 = false := by cases b : Nat.beq f 31 with | false => rfl | true => exact absurd (Nat.eq_of_beq_eq_true b) h3
  have n1 : Nat.beq f 80 = false := by cases b : Nat.beq f 80 with | false => rfl | true => exact absurd (Nat.eq_of_beq_eq_true b) h1
  have n2 : Nat.beq f 30 = false := by cases b : Nat.beq f 30 with | false => rfl | true => exact absurd (Nat.eq_of_beq_eq_true b) h2
  have e : An.ext f = none := by show cond (Nat.beq f 80) (some itoaGo) (cond (Nat.beq f 30) (some spacedGo) (cond (Nat.beq f 31) (some fmeshGo) none)) = none; rw [n1, n2, n3]; rfl
  rw [e] at h; cases h
theorem qeb (k : Nat) (n : Int) (hn : inI64 n = true) : go (k + 1) strconv_Itoa [.int .i64 n] = some [.str ⟨(Lib.itoa n).toArray⟩] := by
  have e : go (k + 1) strconv_Itoa [.int .i64 n] = itoaGo [.int .i64 n] := Eq.trans rfl rfl
  rw [e]; show (bif inI64 n then some [D.str ⟨(Lib.itoa n).toArray⟩] else none) = _; rw [hn]; rfl
theorem qb3 (k : Nat) (wd : ByteArray) (z : Bool) (l : List Int) (hw : wd.size ≤ 1000) (hl : l.length ≤ 1000) (hx : l.all inI64 = true) : go (k + 1) impl_spaced [.str wd, .arr false z (.ints .i64 l)] = some [.str ⟨(spacedL wd.data.toList l).toArray⟩] := by
  have e : go (k + 1) impl_spaced [.str wd, .arr false z (.ints .i64 l)] = spacedGo [.str wd, .arr false z (.ints .i64 l)] := Eq.trans rfl rfl
  rw [e]; show (bif (decide (wd.size ≤ 1000) && (decide (l.length ≤ 1000) && l.all inI64)) then some [D.str ⟨(spacedL wd.data.toList l).toArray⟩] else none) = _; rw [hx, decide_eq_true hw, decide_eq_true hl]; rfl
theorem qbe (k : Nat) (r : Int) (z : Bool) (l : List Cell) (hl : l.length ≤ 1048576) : go (k + 1) impl_FormatMesh [.agg [.int .i64 r, .arr false z (.r3 l)]] = some [.str ⟨(fmeshL r l).toArray⟩] := by
  have e : go (k + 1) impl_FormatMesh [.agg [.int .i64 r, .arr false z (.r3 l)]] = fmeshGo [.agg [.int .i64 r, .arr false z (.r3 l)]] := Eq.trans rfl rfl
  rw [e]; show (bif decide (l.length ≤ 1048576) then some [D.str ⟨(fmeshL r l).toArray⟩] else none) = _; rw [decide_eq_true hl]; rfl
end Go.Proofs.YtjfjniebmdafeaaGreatDoor
end
section
namespace Go.Proofs.YtjfjniebmdafeaaGreatDoor
open Go.Ev
set_option maxRecDepth 20000
abbrev ba (l : List UInt8) : ByteArray := ⟨l.toArray⟩
theorem qao (a b : List UInt8) : ba a ++ ba b = ba (a ++ b) := by
  apply ByteArray.ext
  simp [ba, ByteArray.data_append]
theorem qaq (a : List UInt8) : ByteArray.size (ba a) = a.length := List.size_toArray ..
theorem qap (a : List UInt8) : (ba a).data.toList = a := Eq.trans rfl rfl
def decD (m : Nat) : List UInt8 := if h : m = 0 then [] else decD (m / 10) ++ [UInt8.ofNat (48 + m % 10)]
termination_by m
decreasing_by omega
theorem qfi : ∀ (m : Nat), m ≠ 0 → decD m = Lib.decDigits m := by
  intro m
  induction m using Nat.strongRecOn with
  | _ m ih =>
    intro h
    rw [decD, dif_neg h, Lib.decDigits]
    by_cases g : m < 10
    · rw [dif_pos g, show m / 10 = 0 by omega, show m % 10 = m by omega, decD, dif_pos rfl, List.nil_append]
    · rw [dif_neg g, ih (m / 10) (by omega) (by omega)]
theorem qci (k : Nat) (hk : 2000000 ≤ k) (d : Nat) (hd : d < 10) : go (k + 1) spec_l01Figure [.int .i64 (d : Int)] = some [.int .u8 ((48 + d : Nat) : Int)] := by
  rw [qhm]
  simp (disch := omega) only [qay, nth0, nth1, nth2, nth3, bit, qef, qeg, qer, qew, qex, qey, qez, qe0, qe1, qe2, qeh, qei, qej, qek, qel, qem, qen, qeo, qep, qeq, qes, qet, qeu, qev, qrf, qre, qrg, qnd, qn3, qn5, qjh, qa5, qqo, nI, qfb, qe9, Bool.not_true, Bool.not_false, Bool.and_true, Bool.true_and, Bool.and_false, Bool.false_and, Bool.or_true, Bool.true_or, Bool.or_false, Bool.false_or, beq_self_eq_true, dTT, dFF, dT, dF, bigI, big0, qnc, qr4, qr5, List.length_set, List.length_replicate, Int.toNat_natCast, qed, qee, imax, imin, qr3, show (48 : Int) + (d : Int) = ((48 + d : Nat) : Int) by omega]
theorem qqm (d : Nat) : strL [((d : Nat) : Int)] = ba [UInt8.ofNat d] := by
  unfold strL
  simp [ba]
theorem m_fi (k : Nat) (hk : 2000000 ≤ k) (fu : List (Nat × Nat)) (bl : Bool) : ∀ (M N m : Nat) (x : Int) (s : List UInt8), M < N → m < 10 ^ M → (x = (m : Int) ∨ x = -(m : Int)) → m ≤ 9223372036854775808 → s.length + M ≤ 100 → (x ≤ 9223372036854775807) →
    lp (k + 1) spec_FormatInt [] fu 5 (N) (qox x bl (ba s)) = some [.str (cond bl (ba (45 :: (decD m ++ s))) (ba (decD m ++ s)))]
  | M, 0, m, x, s, hN, hm, hx, hb, hs, hx' => by omega
  | 0, N + 1, m, x, s, hN, hm, hx, hb, hs, hx' => by
    rw [qkg]
    have m0 : m = 0 := by simpa using hm
    subst m0
    have x0 : x = 0 := by omega
    subst x0
    rw [decD, dif_pos rfl, List.nil_append]
    have sz := qaq s
    have s1 : ByteArray.size { data := #[(45 : UInt8)] } = 1 := Eq.trans rfl rfl
    have ap : ({ data := #[(45 : UInt8)] } : ByteArray) ++ ba s = ba (45 :: s) := qao [45] s
    cases bl
    · simp (disch := omega) only [qay, nth0, nth1, nth2, nth3, bit, qef, qeg, qer, qew, qex, qey, qez, qe0, qe1, qe2, qeh, qei, qej, qek, qel, qem, qen, qeo, qep, qeq, qes, qet, qeu, qev, qrf, qre, qrg, qnd, qn3, qn5, qjh, qa5, qqo, nI, qfb, qe9, Bool.not_true, Bool.not_false, Bool.and_true, Bool.true_and, Bool.and_false, Bool.false_and, Bool.or_true, Bool.true_or, Bool.or_false, Bool.false_or, beq_self_eq_true, dTT, dFF, dT, dF, bigI, big0, qnc, qr4, qr5, List.length_set, List.length_replicate, Int.toNat_natCast, qed, qee, imax, imin]
    · simp (disch := omega) only [qay, nth0, nth1, nth2, nth3, bit, qef, qeg, qer, qew, qex, qey, qez, qe0, qe1, qe2, qeh, qei, qej, qek, qel, qem, qen, qeo, qep, qeq, qes, qet, qeu, qev, qrf, qre, qrg, qnd, qn3, qn5, qjh, qa5, qqo, nI, qfb, qe9, Bool.not_true, Bool.not_false, Bool.and_true, Bool.true_and, Bool.and_false, Bool.false_and, Bool.or_true, Bool.true_or, Bool.or_false, Bool.false_or, beq_self_eq_true, dTT, dFF, dT, dF, bigI, big0, qnc, qr4, qr5, List.length_set, List.length_replicate, Int.toNat_natCast, qed, qee, imax, imin, sz, s1, ap]
  | M + 1, N + 1, m, x, s, hN, hm, hx, hb, hs, hx' => by
    rw [qkg]
    have sz := qaq s
    have s1 : ByteArray.size { data := #[(45 : UInt8)] } = 1 := Eq.trans rfl rfl
    have ap : ({ data := #[(45 : UInt8)] } : ByteArray) ++ ba s = ba (45 :: s) := qao [45] s
    by_cases g : m = 0
    · subst g
      have x0 : x = 0 := by omega
      subst x0
      rw [decD, dif_pos rfl, List.nil_append]
      cases bl
      · simp (disch := omega) only [qay, nth0, nth1, nth2, nth3, bit, qef, qeg, qer, qew, qex, qey, qez, qe0, qe1, qe2, qeh, qei, qej, qek, qel, qem, qen, qeo, qep, qeq, qes, qet, qeu, qev, qrf, qre, qrg, qnd, qn3, qn5, qjh, qa5, qqo, nI, qfb, qe9, Bool.not_true, Bool.not_false, Bool.and_true, Bool.true_and, Bool.and_false, Bool.false_and, Bool.or_true, Bool.true_or, Bool.or_false, Bool.false_or, beq_self_eq_true, dTT, dFF, dT, dF, bigI, big0, qnc, qr4, qr5, List.length_set, List.length_replicate, Int.toNat_natCast, qed, qee, imax, imin]
      · simp (disch := omega) only [qay, nth0, nth1, nth2, nth3, bit, qef, qeg, qer, qew, qex, qey, qez, qe0, qe1, qe2, qeh, qei, qej, qek, qel, qem, qen, qeo, qep, qeq, qes, qet, qeu, qev, qrf, qre, qrg, qnd, qn3, qn5, qjh, qa5, qqo, nI, qfb, qe9, Bool.not_true, Bool.not_false, Bool.and_true, Bool.true_and, Bool.and_false, Bool.false_and, Bool.or_true, Bool.true_or, Bool.or_false, Bool.false_or, beq_self_eq_true, dTT, dFF, dT, dF, bigI, big0, qnc, qr4, qr5, List.length_set, List.length_replicate, Int.toNat_natCast, qed, qee, imax, imin, sz, s1, ap]
    have hne : ¬ x = 0 := by omega
    have m10 : m / 10 < 10 ^ M := by rw [Nat.pow_succ] at hm; omega
    have fig := qci k (by omega) (m % 10) (by omega)
    have st := qqm (48 + m % 10)
    have sb : ByteArray.size (ba [UInt8.ofNat (48 + m % 10)]) = 1 := Eq.trans rfl rfl
    have ap2 : ba [UInt8.ofNat (48 + m % 10)] ++ ba s = ba (UInt8.ofNat (48 + m % 10) :: s) := qao _ _
    have ed : decD m ++ s = decD (m / 10) ++ UInt8.ofNat (48 + m % 10) :: s := by
      rw [decD, dif_neg g, List.append_assoc]; rfl
    rw [ed]
    rcases hx with hx | hx
    · have IH := m_fi k hk fu bl M N (m / 10) ((m / 10 : Nat) : Int) (UInt8.ofNat (48 + m % 10) :: s) (by omega) m10 (Or.inl rfl) (by omega) (by simp only [List.length_cons]; omega) (by omega)
      have t1 : Int.tmod x 10 = ((m % 10 : Nat) : Int) := by rw [hx, Int.tmod_eq_emod_of_nonneg (by omega)]; omega
      have t2 : Int.tdiv x 10 = ((m / 10 : Nat) : Int) := by rw [hx, Int.tdiv_eq_ediv_of_nonneg (by omega)]; omega
      simp (disch := omega) only [qay, nth0, nth1, nth2, nth3, bit, qef, qeg, qer, qew, qex, qey, qez, qe0, qe1, qe2, qeh, qei, qej, qek, qel, qem, qen, qeo, qep, qeq, qes, qet, qeu, qev, qrf, qre, qrg, qnd, qn3, qn5, qjh, qa5, qqo, nI, qfb, qe9, Bool.not_true, Bool.not_false, Bool.and_true, Bool.true_and, Bool.and_false, Bool.false_and, Bool.or_true, Bool.true_or, Bool.or_false, Bool.false_or, beq_self_eq_true, dTT, dFF, dT, dF, bigI, big0, qnc, qr4, qr5, List.length_set, List.length_replicate, Int.toNat_natCast, qed, qee, imax, imin, t1, t2, fig, st, sb, sz, ap2, IH]
    · have IH := m_fi k hk fu bl M N (m / 10) (-((m / 10 : Nat) : Int)) (UInt8.ofNat (48 + m % 10) :: s) (by omega) m10 (Or.inr rfl) (by omega) (by simp only [List.length_cons]; omega) (by omega)
      have t1 : Int.tmod x 10 = -((m % 10 : Nat) : Int) := by rw [hx, Int.neg_tmod, Int.tmod_eq_emod_of_nonneg (by omega)]; omega
      have t2 : Int.tdiv x 10 = -((m / 10 : Nat) : Int) := by rw [hx, Int.neg_tdiv, Int.tdiv_eq_ediv_of_nonneg (by omega)]; omega
      by_cases h0 : m % 10 = 0
      · rw [h0] at t1 fig st sb ap2 ⊢
        rw [h0] at IH
        rw [show ((0 : Nat) : Int) = 0 from rfl] at t1 fig
        rw [Int.neg_zero] at t1
        simp (disch := omega) only [qay, nth0, nth1, nth2, nth3, bit, qef, qeg, qer, qew, qex, qey, qez, qe0, qe1, qe2, qeh, qei, qej, qek, qel, qem, qen, qeo, qep, qeq, qes, qet, qeu, qev, qrf, qre, qrg, qnd, qn3, qn5, qjh, qa5, qqo, nI, qfb, qe9, Bool.not_true, Bool.not_false, Bool.and_true, Bool.true_and, Bool.and_false, Bool.false_and, Bool.or_true, Bool.true_or, Bool.or_false, Bool.false_or, beq_self_eq_true, dTT, dFF, dT, dF, bigI, big0, qnc, qr4, qr5, List.length_set, List.length_replicate, Int.toNat_natCast, qed, qee, imax, imin, t1, t2, fig, st, sb, sz, ap2, IH]
      · simp (disch := omega) only [qay, nth0, nth1, nth2, nth3, bit, qef, qeg, qer, qew, qex, qey, qez, qe0, qe1, qe2, qeh, qei, qej, qek, qel, qem, qen, qeo, qep, qeq, qes, qet, qeu, qev, qrf, qre, qrg, qnd, qn3, qn5, qjh, qa5, qqo, nI, qfb, qe9, Bool.not_true, Bool.not_false, Bool.and_true, Bool.true_and, Bool.and_false, Bool.false_and, Bool.or_true, Bool.true_or, Bool.or_false, Bool.false_or, beq_self_eq_true, dTT, dFF, dT, dF, bigI, big0, qnc, qr4, qr5, List.length_set, List.length_replicate, Int.toNat_natCast, qed, qee, imax, imin, t1, t2, fig, st, sb, sz, ap2, IH, show (0 : Int) - -((m % 10 : Nat) : Int) = ((m % 10 : Nat) : Int) by omega]
theorem qcj (k : Nat) (hk : 2000000 ≤ k) (n : Int) (hn : inI64 n = true) : go (k + 2) spec_FormatInt [.int .i64 n] = some [.str (ba (Lib.itoa n))] := by
  have hn' := hn
  unfold inI64 at hn'
  simp only [Bool.and_eq_true, decide_eq_true_eq] at hn'
  rw [qg0]
  by_cases g : n = 0
  · subst g
    have : Lib.itoa 0 = [48] := by
      unfold Lib.itoa; rw [if_neg (by omega)]; exact Lib.decDigits_one (by decide)
    rw [this]
    simp (disch := omega) only [qay, nth0, nth1, nth2, nth3, bit, qef, qeg, qer, qew, qex, qey, qez, qe0, qe1, qe2, qeh, qei, qej, qek, qel, qem, qen, qeo, qep, qeq, qes, qet, qeu, qev, qrf, qre, qrg, qnd, qn3, qn5, qjh, qa5, qqo, nI, qfb, qe9, Bool.not_true, Bool.not_false, Bool.and_true, Bool.true_and, Bool.and_false, Bool.false_and, Bool.or_true, Bool.true_or, Bool.or_false, Bool.false_or, beq_self_eq_true, dTT, dFF, dT, dF, bigI, big0, qnc, qr4, qr5, List.length_set, List.length_replicate, Int.toNat_natCast, qed, qee, imax, imin]
  have e := m_fi k hk [] (decide (n < 0)) 19 (k + 1) n.natAbs n [] (by omega) (by omega) (by omega) (by omega) (by simp) hn'.2
  rw [List.append_nil, qfi _ (by omega)] at e
  have i : Lib.itoa n = cond (decide (n < 0)) (45 :: Lib.decDigits n.natAbs) (Lib.decDigits n.natAbs) := by
    unfold Lib.itoa
    by_cases h : n < 0
    · rw [if_pos h, decide_eq_true h]; rfl
    · rw [if_neg h, decide_eq_false h, show n.toNat = n.natAbs by omega]; rfl
  have e' : ba (Lib.itoa n) = cond (decide (n < 0)) (ba (45 :: Lib.decDigits n.natAbs)) (ba (Lib.decDigits n.natAbs)) := by
    rw [i]; cases decide (n < 0) <;> rfl
  rw [e']
  simp (disch := omega) only [qay, nth0, nth1, nth2, nth3, bit, qef, qeg, qer, qew, qex, qey, qez, qe0, qe1, qe2, qeh, qei, qej, qek, qel, qem, qen, qeo, qep, qeq, qes, qet, qeu, qev, qrf, qre, qrg, qnd, qn3, qn5, qjh, qa5, qqo, nI, qfb, qe9, Bool.not_true, Bool.not_false, Bool.and_true, Bool.true_and, Bool.and_false, Bool.false_and, Bool.or_true, Bool.true_or, Bool.or_false, Bool.false_or, beq_self_eq_true, dTT, dFF, dT, dF, bigI, big0, qnc, qr4, qr5, List.length_set, List.length_replicate, Int.toNat_natCast, qed, qee, imax, imin]
  exact e
theorem qbc (k : Nat) (hk : 2000000 ≤ k) (n : Int) (hn : inI64 n = true) : go (k + 2) impl_FormatInt [.int .i64 n] = some [.str (ba (Lib.itoa n))] := by
  rw [qfu]
  have e := qeb k n hn
  simp (disch := omega) only [qay, nth0, nth1, nth2, nth3, bit, qef, qeg, qer, qew, qex, qey, qez, qe0, qe1, qe2, qeh, qei, qej, qek, qel, qem, qen, qeo, qep, qeq, qes, qet, qeu, qev, qrf, qre, qrg, qnd, qn3, qn5, qjh, qa5, qqo, nI, qfb, qe9, Bool.not_true, Bool.not_false, Bool.and_true, Bool.true_and, Bool.and_false, Bool.false_and, Bool.or_true, Bool.true_or, Bool.or_false, Bool.false_or, beq_self_eq_true, dTT, dFF, dT, dF, bigI, big0, qnc, qr4, qr5, List.length_set, List.length_replicate, Int.toNat_natCast, qed, qee, imax, imin, e]
end Go.Proofs.YtjfjniebmdafeaaGreatDoor
end
section
namespace Go.Proofs.YtjfjniebmdafeaaGreatDoor
open Go.Ev
def qou (x0 x1 : Int) (z2 : Bool) (l3 : List (Int × Int × Int)) (z4 : Bool) (l5 : List Int) (z6 : Bool) (l7 : List Int) (z8 : Bool) (l9 : List Int) (x10 x11 x12 x13 x14 x15 x16 x17 x18 x19 x20 x21 x22 x23 x24 x25 x26 : Int) (z27 : Bool) (l28 : List (Int × Int × Int)) (z29 : Bool) (l30 : List Int) (z31 : Bool) (l32 : List Int) (z33 : Bool) (l34 : List Int) (x35 x36 x37 x38 x39 x40 x41 x42 x43 x44 x45 x46 x47 x48 x49 x50 x51 : Int) : St := ⟨fill 49 [(1, (.int .i64 (x0))), (4, (.ptr 4 (0) (0))), (6, (.ptr 9 (0) (0))), (7, (.int .i64 (x1)))], [], [(.arr true (z2) (.r3 (l3))), (.arr true (z4) (.ints .i64 (l5))), (.arr true (z6) (.ints .i64 (l7))), (.arr true (z8) (.ints .i64 (l9))), (.box true [(.int .i64 (x10)), (.sl 0 none), (.sl 1 none), (.sl 2 none), (.sl 3 none), (.int .i64 (x11)), (.int .i64 (x12)), (.int .i64 (x13)), (.int .i64 (x14)), (.int .i64 (x15)), (.int .i64 (x16)), (.int .i64 (x17)), (.int .i64 (x18)), (.int .i64 (x19)), (.int .i64 (x20)), (.int .i64 (x21)), (.int .i64 (x22)), (.int .i64 (x23)), (.int .i64 (x24)), (.int .i64 (x25)), (.int .i64 (x26))]), (.arr true (z27) (.r3 (l28))), (.arr true (z29) (.ints .i64 (l30))), (.arr true (z31) (.ints .i64 (l32))), (.arr true (z33) (.ints .i64 (l34))), (.box true [(.int .i64 (x35)), (.sl 5 none), (.sl 6 none), (.sl 7 none), (.sl 8 none), (.int .i64 (x36)), (.int .i64 (x37)), (.int .i64 (x38)), (.int .i64 (x39)), (.int .i64 (x40)), (.int .i64 (x41)), (.int .i64 (x42)), (.int .i64 (x43)), (.int .i64 (x44)), (.int .i64 (x45)), (.int .i64 (x46)), (.int .i64 (x47)), (.int .i64 (x48)), (.int .i64 (x49)), (.int .i64 (x50)), (.int .i64 (x51))])]⟩
theorem qgt (k : Nat) (a0 : Int) (a1z : Bool) (a1 : List (Int × Int × Int)) (a2z : Bool) (a2 : List Int) (a3z : Bool) (a3 : List Int) (a4z : Bool) (a4 : List Int) (a5 a6 a7 a8 a9 a10 a11 a12 a13 a14 a15 a16 a17 a18 a19 a20 b : Int) : go (k + 1) spec_Advance [(.agg [(.int .i64 (a0)), (.arr false (a1z) (.r3 (a1))), (.arr false (a2z) (.ints .i64 (a2))), (.arr false (a3z) (.ints .i64 (a3))), (.arr false (a4z) (.ints .i64 (a4))), (.int .i64 (a5)), (.int .i64 (a6)), (.int .i64 (a7)), (.int .i64 (a8)), (.int .i64 (a9)), (.int .i64 (a10)), (.int .i64 (a11)), (.int .i64 (a12)), (.int .i64 (a13)), (.int .i64 (a14)), (.int .i64 (a15)), (.int .i64 (a16)), (.int .i64 (a17)), (.int .i64 (a18)), (.int .i64 (a19)), (.int .i64 (a20))]), (.int .i64 (b))] =
 (go k spec_l36Copy [(.agg [(.int .i64 (a0)), (.arr false (a1z) (.r3 (a1))), (.arr false (a2z) (.ints .i64 (a2))), (.arr false (a3z) (.ints .i64 (a3))), (.arr false (a4z) (.ints .i64 (a4))), (.int .i64 (a5)), (.int .i64 (a6)), (.int .i64 (a7)), (.int .i64 (a8)), (.int .i64 (a9)), (.int .i64 (a10)), (.int .i64 (a11)), (.int .i64 (a12)), (.int .i64 (a13)), (.int .i64 (a14)), (.int .i64 (a15)), (.int .i64 (a16)), (.int .i64 (a17)), (.int .i64 (a18)), (.int .i64 (a19)), (.int .i64 (a20))])]).bind fun r0 =>
 (go k spec_WorldOk [(.agg [(.int .i64 (a0)), (.arr false (a1z) (.r3 (a1))), (.arr false (a2z) (.ints .i64 (a2))), (.arr false (a3z) (.ints .i64 (a3))), (.arr false (a4z) (.ints .i64 (a4))), (.int .i64 (a5)), (.int .i64 (a6)), (.int .i64 (a7)), (.int .i64 (a8)), (.int .i64 (a9)), (.int .i64 (a10)), (.int .i64 (a11)), (.int .i64 (a12)), (.int .i64 (a13)), (.int .i64 (a14)), (.int .i64 (a15)), (.int .i64 (a16)), (.int .i64 (a17)), (.int .i64 (a18)), (.int .i64 (a19)), (.int .i64 (a20))])]).bind fun r1 =>
 cond (!bit (nth r1 0))
 (some [(.agg [(.int .i64 (D.toInt (D.cell 0 (nth r0 0)))), (.arr true (D.nil (D.cell 1 (nth r0 0))) (.r3 (D.r3 (D.cell 1 (nth r0 0))))), (.arr true (D.nil (D.cell 2 (nth r0 0))) (.ints .i64 (D.ints (D.cell 2 (nth r0 0))))), (.arr true (D.nil (D.cell 3 (nth r0 0))) (.ints .i64 (D.ints (D.cell 3 (nth r0 0))))), (.arr true (D.nil (D.cell 4 (nth r0 0))) (.ints .i64 (D.ints (D.cell 4 (nth r0 0))))), (.int .i64 (D.toInt (D.cell 5 (nth r0 0)))), (.int .i64 (D.toInt (D.cell 6 (nth r0 0)))), (.int .i64 (D.toInt (D.cell 7 (nth r0 0)))), (.int .i64 (D.toInt (D.cell 8 (nth r0 0)))), (.int .i64 (D.toInt (D.cell 9 (nth r0 0)))), (.int .i64 (D.toInt (D.cell 10 (nth r0 0)))), (.int .i64 (D.toInt (D.cell 11 (nth r0 0)))), (.int .i64 (D.toInt (D.cell (12 : Nat) (nth r0 0)))), (.int .i64 (D.toInt (D.cell (13 : Nat) (nth r0 0)))), (.int .i64 (D.toInt (D.cell (14 : Nat) (nth r0 0)))), (.int .i64 (D.toInt (D.cell (15 : Nat) (nth r0 0)))), (.int .i64 (D.toInt (D.cell (16 : Nat) (nth r0 0)))), (.int .i64 (D.toInt (D.cell (17 : Nat) (nth r0 0)))), (.int .i64 (D.toInt (D.cell (18 : Nat) (nth r0 0)))), (.int .i64 (D.toInt (D.cell (19 : Nat) (nth r0 0)))), (.int .i64 (D.toInt (D.cell (20 : Nat) (nth r0 0))))]), (.bool (false))])
 ((go k spec_l01In [(.int .i64 (b)), (.int .i64 (0 : Int)), (.int .i64 ((100 : Int)))]).bind fun r2 =>
 cond (!bit (nth r2 0))
 (some [(.agg [(.int .i64 (D.toInt (D.cell 0 (nth r0 0)))), (.arr true (D.nil (D.cell 1 (nth r0 0))) (.r3 (D.r3 (D.cell 1 (nth r0 0))))), (.arr true (D.nil (D.cell 2 (nth r0 0))) (.ints .i64 (D.ints (D.cell 2 (nth r0 0))))), (.arr true (D.nil (D.cell 3 (nth r0 0))) (.ints .i64 (D.ints (D.cell 3 (nth r0 0))))), (.arr true (D.nil (D.cell 4 (nth r0 0))) (.ints .i64 (D.ints (D.cell 4 (nth r0 0))))), (.int .i64 (D.toInt (D.cell 5 (nth r0 0)))), (.int .i64 (D.toInt (D.cell 6 (nth r0 0)))), (.int .i64 (D.toInt (D.cell 7 (nth r0 0)))), (.int .i64 (D.toInt (D.cell 8 (nth r0 0)))), (.int .i64 (D.toInt (D.cell 9 (nth r0 0)))), (.int .i64 (D.toInt (D.cell 10 (nth r0 0)))), (.int .i64 (D.toInt (D.cell 11 (nth r0 0)))), (.int .i64 (D.toInt (D.cell (12 : Nat) (nth r0 0)))), (.int .i64 (D.toInt (D.cell (13 : Nat) (nth r0 0)))), (.int .i64 (D.toInt (D.cell (14 : Nat) (nth r0 0)))), (.int .i64 (D.toInt (D.cell (15 : Nat) (nth r0 0)))), (.int .i64 (D.toInt (D.cell (16 : Nat) (nth r0 0)))), (.int .i64 (D.toInt (D.cell (17 : Nat) (nth r0 0)))), (.int .i64 (D.toInt (D.cell (18 : Nat) (nth r0 0)))), (.int .i64 (D.toInt (D.cell (19 : Nat) (nth r0 0)))), (.int .i64 (D.toInt (D.cell (20 : Nat) (nth r0 0))))]), (.bool (false))])
 (lp k spec_Advance [] [] 5 k (qou b (0 : Int) true ([]) true ([]) true ([]) true ([]) (0 : Int) (0 : Int) (0 : Int) (0 : Int) (0 : Int) (0 : Int) (0 : Int) (0 : Int) (0 : Int) (0 : Int) (0 : Int) (0 : Int) (0 : Int) (0 : Int) (0 : Int) (0 : Int) (0 : Int) (D.nil (D.cell 1 (nth r0 0))) (D.r3 (D.cell 1 (nth r0 0))) (D.nil (D.cell 2 (nth r0 0))) (D.ints (D.cell 2 (nth r0 0))) (D.nil (D.cell 3 (nth r0 0))) (D.ints (D.cell 3 (nth r0 0))) (D.nil (D.cell 4 (nth r0 0))) (D.ints (D.cell 4 (nth r0 0))) (D.toInt (D.cell 0 (nth r0 0))) (D.toInt (D.cell 5 (nth r0 0))) (D.toInt (D.cell 6 (nth r0 0))) (D.toInt (D.cell 7 (nth r0 0))) (D.toInt (D.cell 8 (nth r0 0))) (D.toInt (D.cell 9 (nth r0 0))) (D.toInt (D.cell 10 (nth r0 0))) (D.toInt (D.cell 11 (nth r0 0))) (D.toInt (D.cell (12 : Nat) (nth r0 0))) (D.toInt (D.cell (13 : Nat) (nth r0 0))) (D.toInt (D.cell (14 : Nat) (nth r0 0))) (D.toInt (D.cell (15 : Nat) (nth r0 0))) (D.toInt (D.cell (16 : Nat) (nth r0 0))) (D.toInt (D.cell (17 : Nat) (nth r0 0))) (D.toInt (D.cell (18 : Nat) (nth r0 0))) (D.toInt (D.cell (19 : Nat) (nth r0 0))) (D.toInt (D.cell (20 : Nat) (nth r0 0)))))) := by kernel_rfl
theorem qkd (k n : Nat) (fu : List (Nat × Nat)) (x0 x1 : Int) (z2 : Bool) (l3 : List (Int × Int × Int)) (z4 : Bool) (l5 : List Int) (z6 : Bool) (l7 : List Int) (z8 : Bool) (l9 : List Int) (x10 x11 x12 x13 x14 x15 x16 x17 x18 x19 x20 x21 x22 x23 x24 x25 x26 : Int) (z27 : Bool) (l28 : List (Int × Int × Int)) (z29 : Bool) (l30 : List Int) (z31 : Bool) (l32 : List Int) (z33 : Bool) (l34 : List Int) (x35 x36 x37 x38 x39 x40 x41 x42 x43 x44 x45 x46 x47 x48 x49 x50 x51 : Int) : lp k spec_Advance [] fu 5 (n + 1) (qou x0 x1 z2 l3 z4 l5 z6 l7 z8 l9 x10 x11 x12 x13 x14 x15 x16 x17 x18 x19 x20 x21 x22 x23 x24 x25 x26 z27 l28 z29 l30 z31 l32 z33 l34 x35 x36 x37 x38 x39 x40 x41 x42 x43 x44 x45 x46 x47 x48 x49 x50 x51) =
 cond (decide (x1 < x0))
 ((go k spec_l18Macro [(.agg [(.int .i64 (x35)), (.arr false (z27) (.r3 (l28))), (.arr false (z29) (.ints .i64 (l30))), (.arr false (z31) (.ints .i64 (l32))), (.arr false (z33) (.ints .i64 (l34)))]), (.agg [(.int .i64 (x36)), (.int .i64 (x37)), (.int .i64 (x38)), (.int .i64 (x39)), (.int .i64 (x40)), (.int .i64 (x41)), (.int .i64 (x42)), (.int .i64 (x43)), (.int .i64 (x44))]), (.int .i64 (x45))]).bind fun r0 =>
 (go k spec_LedgerAdd [(.agg [(.int .i64 (x46)), (.int .i64 (x47)), (.int .i64 (x48)), (.int .i64 (x49))]), (.agg [(.int .i64 (D.toInt (D.cell 0 (nth r0 1)))), (.int .i64 (D.toInt (D.cell 1 (nth r0 1)))), (.int .i64 (D.toInt (D.cell 2 (nth r0 1)))), (.int .i64 (D.toInt (D.cell 3 (nth r0 1))))])]).bind fun r1 =>
 lp k spec_Advance [] fu 5 n (qou x0 (IntKind.wrap .i64 (x1 + (1 : Int))) z2 l3 z4 l5 z6 l7 z8 l9 x10 x11 x12 x13 x14 x15 x16 x17 x18 x19 x20 x21 x22 x23 x24 x25 x26 (D.nil (D.cell 1 (nth r0 0))) (D.r3 (D.cell 1 (nth r0 0))) (D.nil (D.cell 2 (nth r0 0))) (D.ints (D.cell 2 (nth r0 0))) (D.nil (D.cell 3 (nth r0 0))) (D.ints (D.cell 3 (nth r0 0))) (D.nil (D.cell 4 (nth r0 0))) (D.ints (D.cell 4 (nth r0 0))) (D.toInt (D.cell 0 (nth r0 0))) x36 x37 x38 x39 x40 x41 x42 x43 x44 (IntKind.wrap .i64 (x45 + (1 : Int))) (D.toInt (D.cell 0 (nth r1 0))) (D.toInt (D.cell 1 (nth r1 0))) (D.toInt (D.cell 2 (nth r1 0))) (D.toInt (D.cell 3 (nth r1 0))) x50 x51))
 ((go k spec_l36Copy [(.agg [(.int .i64 (x35)), (.arr false (z27) (.r3 (l28))), (.arr false (z29) (.ints .i64 (l30))), (.arr false (z31) (.ints .i64 (l32))), (.arr false (z33) (.ints .i64 (l34))), (.int .i64 (x36)), (.int .i64 (x37)), (.int .i64 (x38)), (.int .i64 (x39)), (.int .i64 (x40)), (.int .i64 (x41)), (.int .i64 (x42)), (.int .i64 (x43)), (.int .i64 (x44)), (.int .i64 (x45)), (.int .i64 (x46)), (.int .i64 (x47)), (.int .i64 (x48)), (.int .i64 (x49)), (.int .i64 (x50)), (.int .i64 (x51))])]).bind fun r2 =>
 some [(.agg [(.int .i64 (D.toInt (D.cell 0 (nth r2 0)))), (.arr true (D.nil (D.cell 1 (nth r2 0))) (.r3 (D.r3 (D.cell 1 (nth r2 0))))), (.arr true (D.nil (D.cell 2 (nth r2 0))) (.ints .i64 (D.ints (D.cell 2 (nth r2 0))))), (.arr true (D.nil (D.cell 3 (nth r2 0))) (.ints .i64 (D.ints (D.cell 3 (nth r2 0))))), (.arr true (D.nil (D.cell 4 (nth r2 0))) (.ints .i64 (D.ints (D.cell 4 (nth r2 0))))), (.int .i64 (D.toInt (D.cell 5 (nth r2 0)))), (.int .i64 (D.toInt (D.cell 6 (nth r2 0)))), (.int .i64 (D.toInt (D.cell 7 (nth r2 0)))), (.int .i64 (D.toInt (D.cell 8 (nth r2 0)))), (.int .i64 (D.toInt (D.cell 9 (nth r2 0)))), (.int .i64 (D.toInt (D.cell 10 (nth r2 0)))), (.int .i64 (D.toInt (D.cell 11 (nth r2 0)))), (.int .i64 (D.toInt (D.cell (12 : Nat) (nth r2 0)))), (.int .i64 (D.toInt (D.cell (13 : Nat) (nth r2 0)))), (.int .i64 (D.toInt (D.cell (14 : Nat) (nth r2 0)))), (.int .i64 (D.toInt (D.cell (15 : Nat) (nth r2 0)))), (.int .i64 (D.toInt (D.cell (16 : Nat) (nth r2 0)))), (.int .i64 (D.toInt (D.cell (17 : Nat) (nth r2 0)))), (.int .i64 (D.toInt (D.cell (18 : Nat) (nth r2 0)))), (.int .i64 (D.toInt (D.cell (19 : Nat) (nth r2 0)))), (.int .i64 (D.toInt (D.cell (20 : Nat) (nth r2 0))))]), (.bool (true))]) := by kernel_rfl
end Go.Proofs.YtjfjniebmdafeaaGreatDoor
end
section
namespace Go.Proofs.YtjfjniebmdafeaaGreatDoor
open Go.Ev
theorem qib (k : Nat) (a0 : Int) (a1z : Bool) (a1 : List (Int × Int × Int)) (a2z : Bool) (a2 : List Int) (a3z : Bool) (a3 : List Int) (a4z : Bool) (a4 : List Int) (b0 b1 b2 : Int) : go (k + 1) spec_l13Apply [(.agg [(.int .i64 (a0)), (.arr false (a1z) (.r3 (a1))), (.arr false (a2z) (.ints .i64 (a2))), (.arr false (a3z) (.ints .i64 (a3))), (.arr false (a4z) (.ints .i64 (a4)))]), (.agg [(.int .i64 (b0)), (.int .i64 (b1)), (.int .i64 (b2))])] =
 (go k spec_l07Copy [(.agg [(.int .i64 (a0)), (.arr false (a1z) (.r3 (a1))), (.arr false (a2z) (.ints .i64 (a2))), (.arr false (a3z) (.ints .i64 (a3))), (.arr false (a4z) (.ints .i64 (a4)))])]).bind fun r0 =>
 cond (decide ((0 : Int) ≤ IntKind.wrap .i64 (nI (List.length a2) - (1 : Int))) && decide (IntKind.wrap .i64 (nI (List.length a2) - (1 : Int)) < nI (List.length a2)))
 (cond (decide ((0 : Int) ≤ IntKind.wrap .i64 (nI (List.length a2) - (1 : Int))) && decide (IntKind.wrap .i64 (nI (List.length a2) - (1 : Int)) < nI (List.length a3)))
 (cond (decide ((0 : Int) ≤ IntKind.wrap .i64 (nI (List.length a2) - (1 : Int))) && decide (IntKind.wrap .i64 (nI (List.length a2) - (1 : Int)) < nI (List.length a2)))
 ((go k spec_ShareOut [(.int .i64 (List.getD a3 (Int.toNat (IntKind.wrap .i64 (nI (List.length a2) - (1 : Int)))) (0 : Int))), (.int .i64 (IntKind.wrap .i64 (Int.tdiv (IntKind.wrap .i64 (List.getD a2 (Int.toNat (IntKind.wrap .i64 (nI (List.length a2) - (1 : Int)))) (0 : Int) * b2)) (1000 : Int)))), (.int .i64 (List.getD a2 (Int.toNat (IntKind.wrap .i64 (nI (List.length a2) - (1 : Int)))) (0 : Int)))]).bind fun r1 =>
 cond (decide ((0 : Int) ≤ IntKind.wrap .i64 (nI (List.length a2) - (1 : Int))) && decide (IntKind.wrap .i64 (nI (List.length a2) - (1 : Int)) < nI (List.length (D.ints (D.cell 2 (nth r0 0))))))
 (cond (decide ((0 : Int) ≤ IntKind.wrap .i64 (nI (List.length a2) - (1 : Int))) && decide (IntKind.wrap .i64 (nI (List.length a2) - (1 : Int)) < nI (List.length (D.ints (D.cell 2 (nth r0 0))))))
 (cond (decide ((0 : Int) ≤ IntKind.wrap .i64 (nI (List.length a2) - (1 : Int))) && decide (IntKind.wrap .i64 (nI (List.length a2) - (1 : Int)) < nI (List.length (D.ints (D.cell 3 (nth r0 0))))))
 (cond (decide ((0 : Int) ≤ IntKind.wrap .i64 (nI (List.length a2) - (1 : Int))) && decide (IntKind.wrap .i64 (nI (List.length a2) - (1 : Int)) < nI (List.length (D.ints (D.cell 3 (nth r0 0))))))
 ((go k spec_l07Sum [(.arr false (D.nil (D.cell 2 (nth r0 0))) (.ints .i64 (List.set (D.ints (D.cell 2 (nth r0 0))) (Int.toNat (IntKind.wrap .i64 (nI (List.length a2) - (1 : Int)))) (IntKind.wrap .i64 (List.getD (D.ints (D.cell 2 (nth r0 0))) (Int.toNat (IntKind.wrap .i64 (nI (List.length a2) - (1 : Int)))) (0 : Int) - IntKind.wrap .i64 (Int.tdiv (IntKind.wrap .i64 (List.getD a2 (Int.toNat (IntKind.wrap .i64 (nI (List.length a2) - (1 : Int)))) (0 : Int) * b2)) (1000 : Int)))))))]).bind fun r2 =>
 cond (decide (IntKind.wrap .i64 (D.toInt (nth r2 0) + b0) ≤ (10000000 : Int)))
 (cond (decide ((0 : Int) ≤ (0 : Int)) && decide ((0 : Int) < nI (List.length (List.set (D.ints (D.cell 2 (nth r0 0))) (Int.toNat (IntKind.wrap .i64 (nI (List.length a2) - (1 : Int)))) (IntKind.wrap .i64 (List.getD (D.ints (D.cell 2 (nth r0 0))) (Int.toNat (IntKind.wrap .i64 (nI (List.length a2) - (1 : Int)))) (0 : Int) - IntKind.wrap .i64 (Int.tdiv (IntKind.wrap .i64 (List.getD a2 (Int.toNat (IntKind.wrap .i64 (nI (List.length a2) - (1 : Int)))) (0 : Int) * b2)) (1000 : Int))))))))
 (cond (decide ((0 : Int) ≤ (0 : Int)) && decide ((0 : Int) < nI (List.length (List.set (D.ints (D.cell 2 (nth r0 0))) (Int.toNat (IntKind.wrap .i64 (nI (List.length a2) - (1 : Int)))) (IntKind.wrap .i64 (List.getD (D.ints (D.cell 2 (nth r0 0))) (Int.toNat (IntKind.wrap .i64 (nI (List.length a2) - (1 : Int)))) (0 : Int) - IntKind.wrap .i64 (Int.tdiv (IntKind.wrap .i64 (List.getD a2 (Int.toNat (IntKind.wrap .i64 (nI (List.length a2) - (1 : Int)))) (0 : Int) * b2)) (1000 : Int))))))))
 (cond (decide ((0 : Int) ≤ (0 : Int)) && decide ((0 : Int) < nI (List.length (List.set (D.ints (D.cell 3 (nth r0 0))) (Int.toNat (IntKind.wrap .i64 (nI (List.length a2) - (1 : Int)))) (IntKind.wrap .i64 (List.getD (D.ints (D.cell 3 (nth r0 0))) (Int.toNat (IntKind.wrap .i64 (nI (List.length a2) - (1 : Int)))) (0 : Int) - D.toInt (nth r1 0)))))))
 (cond (decide ((0 : Int) ≤ (0 : Int)) && decide ((0 : Int) < nI (List.length (List.set (D.ints (D.cell 3 (nth r0 0))) (Int.toNat (IntKind.wrap .i64 (nI (List.length a2) - (1 : Int)))) (IntKind.wrap .i64 (List.getD (D.ints (D.cell 3 (nth r0 0))) (Int.toNat (IntKind.wrap .i64 (nI (List.length a2) - (1 : Int)))) (0 : Int) - D.toInt (nth r1 0)))))))
 (some [(.agg [(.int .i64 (D.toInt (D.cell 0 (nth r0 0)))), (.arr true (D.nil (D.cell 1 (nth r0 0))) (.r3 (D.r3 (D.cell 1 (nth r0 0))))), (.arr true (D.nil (D.cell 2 (nth r0 0))) (.ints .i64 (List.set (List.set (D.ints (D.cell 2 (nth r0 0))) (Int.toNat (IntKind.wrap .i64 (nI (List.length a2) - (1 : Int)))) (IntKind.wrap .i64 (List.getD (D.ints (D.cell 2 (nth r0 0))) (Int.toNat (IntKind.wrap .i64 (nI (List.length a2) - (1 : Int)))) (0 : Int) - IntKind.wrap .i64 (Int.tdiv (IntKind.wrap .i64 (List.getD a2 (Int.toNat (IntKind.wrap .i64 (nI (List.length a2) - (1 : Int)))) (0 : Int) * b2)) (1000 : Int))))) (Int.toNat (0 : Int)) (IntKind.wrap .i64 (List.getD (List.set (D.ints (D.cell 2 (nth r0 0))) (Int.toNat (IntKind.wrap .i64 (nI (List.length a2) - (1 : Int)))) (IntKind.wrap .i64 (List.getD (D.ints (D.cell 2 (nth r0 0))) (Int.toNat (IntKind.wrap .i64 (nI (List.length a2) - (1 : Int)))) (0 : Int) - IntKind.wrap .i64 (Int.tdiv (IntKind.wrap .i64 (List.getD a2 (Int.toNat (IntKind.wrap .i64 (nI (List.length a2) - (1 : Int)))) (0 : Int) * b2)) (1000 : Int))))) (Int.toNat (0 : Int)) (0 : Int) + b0))))), (.arr true (D.nil (D.cell 3 (nth r0 0))) (.ints .i64 (List.set (List.set (D.ints (D.cell 3 (nth r0 0))) (Int.toNat (IntKind.wrap .i64 (nI (List.length a2) - (1 : Int)))) (IntKind.wrap .i64 (List.getD (D.ints (D.cell 3 (nth r0 0))) (Int.toNat (IntKind.wrap .i64 (nI (List.length a2) - (1 : Int)))) (0 : Int) - D.toInt (nth r1 0)))) (Int.toNat (0 : Int)) (IntKind.wrap .i64 (List.getD (List.set (D.ints (D.cell 3 (nth r0 0))) (Int.toNat (IntKind.wrap .i64 (nI (List.length a2) - (1 : Int)))) (IntKind.wrap .i64 (List.getD (D.ints (D.cell 3 (nth r0 0))) (Int.toNat (IntKind.wrap .i64 (nI (List.length a2) - (1 : Int)))) (0 : Int) - D.toInt (nth r1 0)))) (Int.toNat (0 : Int)) (0 : Int) + IntKind.wrap .i64 (b0 * b1)))))), (.arr true (D.nil (D.cell 4 (nth r0 0))) (.ints .i64 (D.ints (D.cell 4 (nth r0 0)))))]), (.agg [(.int .i64 (b0)), (.int .i64 (IntKind.wrap .i64 (Int.tdiv (IntKind.wrap .i64 (List.getD a2 (Int.toNat (IntKind.wrap .i64 (nI (List.length a2) - (1 : Int)))) (0 : Int) * b2)) (1000 : Int)))), (.int .i64 (IntKind.wrap .i64 (b0 * b1))), (.int .i64 (D.toInt (nth r1 0)))])])
 (none))
 (none))
 (none))
 (none))
 (some [(.agg [(.int .i64 (D.toInt (D.cell 0 (nth r0 0)))), (.arr true (D.nil (D.cell 1 (nth r0 0))) (.r3 (D.r3 (D.cell 1 (nth r0 0))))), (.arr true (D.nil (D.cell 2 (nth r0 0))) (.ints .i64 (List.set (D.ints (D.cell 2 (nth r0 0))) (Int.toNat (IntKind.wrap .i64 (nI (List.length a2) - (1 : Int)))) (IntKind.wrap .i64 (List.getD (D.ints (D.cell 2 (nth r0 0))) (Int.toNat (IntKind.wrap .i64 (nI (List.length a2) - (1 : Int)))) (0 : Int) - IntKind.wrap .i64 (Int.tdiv (IntKind.wrap .i64 (List.getD a2 (Int.toNat (IntKind.wrap .i64 (nI (List.length a2) - (1 : Int)))) (0 : Int) * b2)) (1000 : Int))))))), (.arr true (D.nil (D.cell 3 (nth r0 0))) (.ints .i64 (List.set (D.ints (D.cell 3 (nth r0 0))) (Int.toNat (IntKind.wrap .i64 (nI (List.length a2) - (1 : Int)))) (IntKind.wrap .i64 (List.getD (D.ints (D.cell 3 (nth r0 0))) (Int.toNat (IntKind.wrap .i64 (nI (List.length a2) - (1 : Int)))) (0 : Int) - D.toInt (nth r1 0)))))), (.arr true (D.nil (D.cell 4 (nth r0 0))) (.ints .i64 (D.ints (D.cell 4 (nth r0 0)))))]), (.agg [(.int .i64 (0 : Int)), (.int .i64 (IntKind.wrap .i64 (Int.tdiv (IntKind.wrap .i64 (List.getD a2 (Int.toNat (IntKind.wrap .i64 (nI (List.length a2) - (1 : Int)))) (0 : Int) * b2)) (1000 : Int)))), (.int .i64 (0 : Int)), (.int .i64 (D.toInt (nth r1 0)))])]))
 (none))
 (none))
 (none))
 (none))
 (none))
 (none))
 (none) := by kernel_rfl
theorem qid (k : Nat) (a b : Int) : go (k + 1) spec_l14Part [(.int .i64 (a)), (.int .i64 (b))] =
 (go k spec_WidthOf [(.int .i64 (b))]).bind fun r0 =>
 some [(.int .i64 (IntKind.wrap .i64 (Int.tdiv (IntKind.wrap .i64 (a * D.toInt (nth r0 0))) (16 : Int))))] := by kernel_rfl
def qpc (x0 x1 x2 : Int) (z3 : Bool) (l4 : List (Int × Int × Int)) (z5 : Bool) (l6 : List Int) (z7 : Bool) (l8 : List Int) (z9 : Bool) (l10 : List Int) (x11 : Int) (z12 : Bool) (l13 : List (Int × Int × Int)) (z14 : Bool) (l15 : List Int) (z16 : Bool) (l17 : List Int) (z18 : Bool) (l19 : List Int) (x20 x21 x22 x23 x24 : Int) (z25 : Bool) (l26 : List (Int × Int × Int)) (z27 : Bool) (l28 : List Int) (z29 : Bool) (l30 : List Int) (z31 : Bool) (l32 : List Int) (x33 : Int) : St := ⟨fill 52 [(1, (.int .i64 (x0))), (2, (.ptr 4 (0) (0))), (4, (.ptr 9 (0) (0))), (5, (.ptr 10 (0) (0))), (6, (.ptr 15 (0) (0))), (7, (.int .i64 (x1))), (8, (.int .i64 (x2)))], [], [(.arr false (z3) (.r3 (l4))), (.arr false (z5) (.ints .i64 (l6))), (.arr false (z7) (.ints .i64 (l8))), (.arr false (z9) (.ints .i64 (l10))), (.box true [(.int .i64 (x11)), (.sl 0 none), (.sl 1 none), (.sl 2 none), (.sl 3 none)]), (.arr true (z12) (.r3 (l13))), (.arr true (z14) (.ints .i64 (l15))), (.arr true (z16) (.ints .i64 (l17))), (.arr true (z18) (.ints .i64 (l19))), (.box true [(.int .i64 (x20)), (.sl 5 none), (.sl 6 none), (.sl 7 none), (.sl 8 none)]), (.box true [(.int .i64 (x21)), (.int .i64 (x22)), (.int .i64 (x23)), (.int .i64 (x24))]), (.arr true (z25) (.r3 (l26))), (.arr true (z27) (.ints .i64 (l28))), (.arr true (z29) (.ints .i64 (l30))), (.arr true (z31) (.ints .i64 (l32))), (.box true [(.int .i64 (x33)), (.sl 11 none), (.sl 12 none), (.sl 13 none), (.sl 14 none)])]⟩
theorem qie (k : Nat) (a0 : Int) (a1z : Bool) (a1 : List (Int × Int × Int)) (a2z : Bool) (a2 : List Int) (a3z : Bool) (a3 : List Int) (a4z : Bool) (a4 : List Int) (b : Int) : go (k + 1) spec_l14Rain [(.agg [(.int .i64 (a0)), (.arr false (a1z) (.r3 (a1))), (.arr false (a2z) (.ints .i64 (a2))), (.arr false (a3z) (.ints .i64 (a3))), (.arr false (a4z) (.ints .i64 (a4)))]), (.int .i64 (b))] =
 (go k spec_l07Copy [(.agg [(.int .i64 (a0)), (.arr false (a1z) (.r3 (a1))), (.arr false (a2z) (.ints .i64 (a2))), (.arr false (a3z) (.ints .i64 (a3))), (.arr false (a4z) (.ints .i64 (a4)))])]).bind fun r0 =>
 lp k spec_l14Rain [] [] 4 k (qpc b (0 : Int) (0 : Int) a1z a1 a2z a2 a3z a3 a4z a4 a0 true ([]) true ([]) true ([]) true ([]) (0 : Int) (0 : Int) (0 : Int) (0 : Int) (0 : Int) (D.nil (D.cell 1 (nth r0 0))) (D.r3 (D.cell 1 (nth r0 0))) (D.nil (D.cell 2 (nth r0 0))) (D.ints (D.cell 2 (nth r0 0))) (D.nil (D.cell 3 (nth r0 0))) (D.ints (D.cell 3 (nth r0 0))) (D.nil (D.cell 4 (nth r0 0))) (D.ints (D.cell 4 (nth r0 0))) (D.toInt (D.cell 0 (nth r0 0)))) := by kernel_rfl
theorem qkv (k n : Nat) (fu : List (Nat × Nat)) (x0 x1 x2 : Int) (z3 : Bool) (l4 : List (Int × Int × Int)) (z5 : Bool) (l6 : List Int) (z7 : Bool) (l8 : List Int) (z9 : Bool) (l10 : List Int) (x11 : Int) (z12 : Bool) (l13 : List (Int × Int × Int)) (z14 : Bool) (l15 : List Int) (z16 : Bool) (l17 : List Int) (z18 : Bool) (l19 : List Int) (x20 x21 x22 x23 x24 : Int) (z25 : Bool) (l26 : List (Int × Int × Int)) (z27 : Bool) (l28 : List Int) (z29 : Bool) (l30 : List Int) (z31 : Bool) (l32 : List Int) (x33 : Int) : lp k spec_l14Rain [] fu 4 (n + 1) (qpc x0 x1 x2 z3 l4 z5 l6 z7 l8 z9 l10 x11 z12 l13 z14 l15 z16 l17 z18 l19 x20 x21 x22 x23 x24 z25 l26 z27 l28 z29 l30 z31 l32 x33) =
 cond (decide (x2 < nI (List.length l6)))
 (cond (decide ((0 : Int) ≤ x2) && decide (x2 < nI (List.length l4)))
 ((go k spec_l14Part [(.int .i64 (x0)), (.int .i64 (Prod.fst (Prod.snd (List.getD l4 (Int.toNat x2) zz3))))]).bind fun r0 =>
 cond (decide ((0 : Int) ≤ x2) && decide (x2 < nI (List.length l28)))
 (cond (decide ((0 : Int) ≤ x2) && decide (x2 < nI (List.length l28)))
 (lp k spec_l14Rain [] fu 4 n (qpc x0 (IntKind.wrap .i64 (x1 + D.toInt (nth r0 0))) (IntKind.wrap .i64 (x2 + (1 : Int))) z3 l4 z5 l6 z7 l8 z9 l10 x11 z12 l13 z14 l15 z16 l17 z18 l19 x20 x21 x22 x23 x24 z25 l26 z27 (List.set l28 (Int.toNat x2) (IntKind.wrap .i64 (List.getD l28 (Int.toNat x2) (0 : Int) + D.toInt (nth r0 0)))) z29 l30 z31 l32 x33))
 (none))
 (none))
 (none))
 ((go k spec_l07Sum [(.arr false (z27) (.ints .i64 (l28)))]).bind fun r1 =>
 cond (decide ((10000000 : Int) < D.toInt (nth r1 0)))
 ((go k spec_l07Copy [(.agg [(.int .i64 (x11)), (.arr false (z3) (.r3 (l4))), (.arr false (z5) (.ints .i64 (l6))), (.arr false (z7) (.ints .i64 (l8))), (.arr false (z9) (.ints .i64 (l10)))])]).bind fun r2 =>
 some [(.agg [(.int .i64 (D.toInt (D.cell 0 (nth r2 0)))), (.arr true (D.nil (D.cell 1 (nth r2 0))) (.r3 (D.r3 (D.cell 1 (nth r2 0))))), (.arr true (D.nil (D.cell 2 (nth r2 0))) (.ints .i64 (D.ints (D.cell 2 (nth r2 0))))), (.arr true (D.nil (D.cell 3 (nth r2 0))) (.ints .i64 (D.ints (D.cell 3 (nth r2 0))))), (.arr true (D.nil (D.cell 4 (nth r2 0))) (.ints .i64 (D.ints (D.cell 4 (nth r2 0)))))]), (.agg [(.int .i64 (0 : Int)), (.int .i64 (0 : Int)), (.int .i64 (0 : Int)), (.int .i64 (0 : Int))])])
 (some [(.agg [(.int .i64 (x33)), (.arr true (z25) (.r3 (l26))), (.arr true (z27) (.ints .i64 (l28))), (.arr true (z29) (.ints .i64 (l30))), (.arr true (z31) (.ints .i64 (l32)))]), (.agg [(.int .i64 (x1)), (.int .i64 (0 : Int)), (.int .i64 (0 : Int)), (.int .i64 (0 : Int))])])) := by kernel_rfl
def qpd (x0 x1 : Int) (z2 : Bool) (l3 : List (Int × Int × Int)) (z4 : Bool) (l5 : List Int) (z6 : Bool) (l7 : List Int) (z8 : Bool) (l9 : List Int) (x10 : Int) (z11 : Bool) (l12 : List (Int × Int × Int)) (z13 : Bool) (l14 : List Int) (z15 : Bool) (l16 : List Int) (z17 : Bool) (l18 : List Int) (x19 x20 x21 x22 x23 : Int) (z24 : Bool) (l25 : List (Int × Int × Int)) (z26 : Bool) (l27 : List Int) (z28 : Bool) (l29 : List Int) (z30 : Bool) (l31 : List Int) (x32 x33 x34 x35 x36 : Int) : St := ⟨fill 82 [(1, (.int .i64 (x0))), (2, (.ptr 4 (0) (0))), (4, (.ptr 9 (0) (0))), (5, (.ptr 10 (0) (0))), (6, (.ptr 15 (0) (0))), (7, (.ptr 16 (0) (0))), (8, (.int .i64 (x1)))], [], [(.arr false (z2) (.r3 (l3))), (.arr false (z4) (.ints .i64 (l5))), (.arr false (z6) (.ints .i64 (l7))), (.arr false (z8) (.ints .i64 (l9))), (.box true [(.int .i64 (x10)), (.sl 0 none), (.sl 1 none), (.sl 2 none), (.sl 3 none)]), (.arr true (z11) (.r3 (l12))), (.arr true (z13) (.ints .i64 (l14))), (.arr true (z15) (.ints .i64 (l16))), (.arr true (z17) (.ints .i64 (l18))), (.box true [(.int .i64 (x19)), (.sl 5 none), (.sl 6 none), (.sl 7 none), (.sl 8 none)]), (.box true [(.int .i64 (x20)), (.int .i64 (x21)), (.int .i64 (x22)), (.int .i64 (x23))]), (.arr true (z24) (.r3 (l25))), (.arr true (z26) (.ints .i64 (l27))), (.arr true (z28) (.ints .i64 (l29))), (.arr true (z30) (.ints .i64 (l31))), (.box true [(.int .i64 (x32)), (.sl 11 none), (.sl 12 none), (.sl 13 none), (.sl 14 none)]), (.box true [(.int .i64 (x33)), (.int .i64 (x34)), (.int .i64 (x35)), (.int .i64 (x36))])]⟩
theorem qif (k : Nat) (a0 : Int) (a1z : Bool) (a1 : List (Int × Int × Int)) (a2z : Bool) (a2 : List Int) (a3z : Bool) (a3 : List Int) (a4z : Bool) (a4 : List Int) (b : Int) : go (k + 1) spec_l14Soak [(.agg [(.int .i64 (a0)), (.arr false (a1z) (.r3 (a1))), (.arr false (a2z) (.ints .i64 (a2))), (.arr false (a3z) (.ints .i64 (a3))), (.arr false (a4z) (.ints .i64 (a4)))]), (.int .i64 (b))] =
 (go k spec_l07Copy [(.agg [(.int .i64 (a0)), (.arr false (a1z) (.r3 (a1))), (.arr false (a2z) (.ints .i64 (a2))), (.arr false (a3z) (.ints .i64 (a3))), (.arr false (a4z) (.ints .i64 (a4)))])]).bind fun r0 =>
 lp k spec_l14Soak [] [] 4 k (qpd b (0 : Int) a1z a1 a2z a2 a3z a3 a4z a4 a0 true ([]) true ([]) true ([]) true ([]) (0 : Int) (0 : Int) (0 : Int) (0 : Int) (0 : Int) (D.nil (D.cell 1 (nth r0 0))) (D.r3 (D.cell 1 (nth r0 0))) (D.nil (D.cell 2 (nth r0 0))) (D.ints (D.cell 2 (nth r0 0))) (D.nil (D.cell 3 (nth r0 0))) (D.ints (D.cell 3 (nth r0 0))) (D.nil (D.cell 4 (nth r0 0))) (D.ints (D.cell 4 (nth r0 0))) (D.toInt (D.cell 0 (nth r0 0))) (0 : Int) (0 : Int) (0 : Int) (0 : Int)) := by kernel_rfl
theorem qkw (k n : Nat) (fu : List (Nat × Nat)) (x0 x1 : Int) (z2 : Bool) (l3 : List (Int × Int × Int)) (z4 : Bool) (l5 : List Int) (z6 : Bool) (l7 : List Int) (z8 : Bool) (l9 : List Int) (x10 : Int) (z11 : Bool) (l12 : List (Int × Int × Int)) (z13 : Bool) (l14 : List Int) (z15 : Bool) (l16 : List Int) (z17 : Bool) (l18 : List Int) (x19 x20 x21 x22 x23 : Int) (z24 : Bool) (l25 : List (Int × Int × Int)) (z26 : Bool) (l27 : List Int) (z28 : Bool) (l29 : List Int) (z30 : Bool) (l31 : List Int) (x32 x33 x34 x35 x36 : Int) : lp k spec_l14Soak [] fu 4 (n + 1) (qpd x0 x1 z2 l3 z4 l5 z6 l7 z8 l9 x10 z11 l12 z13 l14 z15 l16 z17 l18 x19 x20 x21 x22 x23 z24 l25 z26 l27 z28 l29 z30 l31 x32 x33 x34 x35 x36) =
 cond (decide (x1 < nI (List.length l5)))
 (cond (decide ((0 : Int) ≤ x1) && decide (x1 < nI (List.length l3)))
 ((go k spec_l14Part [(.int .i64 (x0)), (.int .i64 (Prod.fst (Prod.snd (List.getD l3 (Int.toNat x1) zz3))))]).bind fun r0 =>
 cond (decide ((0 : Int) ≤ x1) && decide (x1 < nI (List.length l5)))
 (cond (decide ((0 : Int) ≤ x1) && decide (x1 < nI (List.length l7)))
 (cond (decide ((0 : Int) ≤ x1) && decide (x1 < nI (List.length l5)))
 ((go k spec_ShareOut [(.int .i64 (List.getD l7 (Int.toNat x1) (0 : Int))), (.int .i64 (if List.getD l5 (Int.toNat x1) (0 : Int) < D.toInt (nth r0 0) then List.getD l5 (Int.toNat x1) (0 : Int) else D.toInt (nth r0 0))), (.int .i64 (List.getD l5 (Int.toNat x1) (0 : Int)))]).bind fun r1 =>
 cond (decide ((0 : Int) ≤ x1) && decide (x1 < nI (List.length l27)))
 (cond (decide ((0 : Int) ≤ x1) && decide (x1 < nI (List.length l27)))
 (cond (decide ((0 : Int) ≤ x1) && decide (x1 < nI (List.length l29)))
 (cond (decide ((0 : Int) ≤ x1) && decide (x1 < nI (List.length l29)))
 (lp k spec_l14Soak [] fu 4 n (qpd x0 (IntKind.wrap .i64 (x1 + (1 : Int))) z2 l3 z4 l5 z6 l7 z8 l9 x10 z11 l12 z13 l14 z15 l16 z17 l18 x19 x20 x21 x22 x23 z24 l25 z26 (List.set l27 (Int.toNat x1) (IntKind.wrap .i64 (List.getD l27 (Int.toNat x1) (0 : Int) - if List.getD l5 (Int.toNat x1) (0 : Int) < D.toInt (nth r0 0) then List.getD l5 (Int.toNat x1) (0 : Int) else D.toInt (nth r0 0)))) z28 (List.set l29 (Int.toNat x1) (IntKind.wrap .i64 (List.getD l29 (Int.toNat x1) (0 : Int) - D.toInt (nth r1 0)))) z30 l31 x32 x33 (IntKind.wrap .i64 (x34 + if List.getD l5 (Int.toNat x1) (0 : Int) < D.toInt (nth r0 0) then List.getD l5 (Int.toNat x1) (0 : Int) else D.toInt (nth r0 0))) x35 (IntKind.wrap .i64 (x36 + D.toInt (nth r1 0)))))
 (none))
 (none))
 (none))
 (none))
 (none))
 (none))
 (none))
 (none))
 (some [(.agg [(.int .i64 (x32)), (.arr true (z24) (.r3 (l25))), (.arr true (z26) (.ints .i64 (l27))), (.arr true (z28) (.ints .i64 (l29))), (.arr true (z30) (.ints .i64 (l31)))]), (.agg [(.int .i64 (x33)), (.int .i64 (x34)), (.int .i64 (x35)), (.int .i64 (x36))])]) := by kernel_rfl
def qpe (x0 x1 : Int) (z2 : Bool) (l3 : List (Int × Int × Int)) (z4 : Bool) (l5 : List Int) (z6 : Bool) (l7 : List Int) (z8 : Bool) (l9 : List Int) (x10 : Int) (z11 : Bool) (l12 : List (Int × Int × Int)) (z13 : Bool) (l14 : List Int) (z15 : Bool) (l16 : List Int) (z17 : Bool) (l18 : List Int) (x19 x20 x21 x22 x23 : Int) (z24 : Bool) (l25 : List (Int × Int × Int)) (z26 : Bool) (l27 : List Int) (z28 : Bool) (l29 : List Int) (z30 : Bool) (l31 : List Int) (x32 x33 x34 x35 x36 : Int) : St := ⟨fill 46 [(1, (.int .i64 (x0))), (2, (.ptr 4 (0) (0))), (4, (.ptr 9 (0) (0))), (5, (.ptr 10 (0) (0))), (6, (.ptr 15 (0) (0))), (7, (.ptr 16 (0) (0))), (8, (.int .i64 (x1)))], [], [(.arr false (z2) (.r3 (l3))), (.arr false (z4) (.ints .i64 (l5))), (.arr false (z6) (.ints .i64 (l7))), (.arr false (z8) (.ints .i64 (l9))), (.box true [(.int .i64 (x10)), (.sl 0 none), (.sl 1 none), (.sl 2 none), (.sl 3 none)]), (.arr true (z11) (.r3 (l12))), (.arr true (z13) (.ints .i64 (l14))), (.arr true (z15) (.ints .i64 (l16))), (.arr true (z17) (.ints .i64 (l18))), (.box true [(.int .i64 (x19)), (.sl 5 none), (.sl 6 none), (.sl 7 none), (.sl 8 none)]), (.box true [(.int .i64 (x20)), (.int .i64 (x21)), (.int .i64 (x22)), (.int .i64 (x23))]), (.arr true (z24) (.r3 (l25))), (.arr true (z26) (.ints .i64 (l27))), (.arr true (z28) (.ints .i64 (l29))), (.arr true (z30) (.ints .i64 (l31))), (.box true [(.int .i64 (x32)), (.sl 11 none), (.sl 12 none), (.sl 13 none), (.sl 14 none)]), (.box true [(.int .i64 (x33)), (.int .i64 (x34)), (.int .i64 (x35)), (.int .i64 (x36))])]⟩
theorem qig (k : Nat) (a0 : Int) (a1z : Bool) (a1 : List (Int × Int × Int)) (a2z : Bool) (a2 : List Int) (a3z : Bool) (a3 : List Int) (a4z : Bool) (a4 : List Int) (b : Int) : go (k + 1) spec_l15Decay [(.agg [(.int .i64 (a0)), (.arr false (a1z) (.r3 (a1))), (.arr false (a2z) (.ints .i64 (a2))), (.arr false (a3z) (.ints .i64 (a3))), (.arr false (a4z) (.ints .i64 (a4)))]), (.int .i64 (b))] =
 (go k spec_l07Copy [(.agg [(.int .i64 (a0)), (.arr false (a1z) (.r3 (a1))), (.arr false (a2z) (.ints .i64 (a2))), (.arr false (a3z) (.ints .i64 (a3))), (.arr false (a4z) (.ints .i64 (a4)))])]).bind fun r0 =>
 lp k spec_l15Decay [] [] 4 k (qpe b (0 : Int) a1z a1 a2z a2 a3z a3 a4z a4 a0 true ([]) true ([]) true ([]) true ([]) (0 : Int) (0 : Int) (0 : Int) (0 : Int) (0 : Int) (D.nil (D.cell 1 (nth r0 0))) (D.r3 (D.cell 1 (nth r0 0))) (D.nil (D.cell 2 (nth r0 0))) (D.ints (D.cell 2 (nth r0 0))) (D.nil (D.cell 3 (nth r0 0))) (D.ints (D.cell 3 (nth r0 0))) (D.nil (D.cell 4 (nth r0 0))) (D.ints (D.cell 4 (nth r0 0))) (D.toInt (D.cell 0 (nth r0 0))) (0 : Int) (0 : Int) (0 : Int) (0 : Int)) := by kernel_rfl
theorem qkx (k n : Nat) (fu : List (Nat × Nat)) (x0 x1 : Int) (z2 : Bool) (l3 : List (Int × Int × Int)) (z4 : Bool) (l5 : List Int) (z6 : Bool) (l7 : List Int) (z8 : Bool) (l9 : List Int) (x10 : Int) (z11 : Bool) (l12 : List (Int × Int × Int)) (z13 : Bool) (l14 : List Int) (z15 : Bool) (l16 : List Int) (z17 : Bool) (l18 : List Int) (x19 x20 x21 x22 x23 : Int) (z24 : Bool) (l25 : List (Int × Int × Int)) (z26 : Bool) (l27 : List Int) (z28 : Bool) (l29 : List Int) (z30 : Bool) (l31 : List Int) (x32 x33 x34 x35 x36 : Int) : lp k spec_l15Decay [] fu 4 (n + 1) (qpe x0 x1 z2 l3 z4 l5 z6 l7 z8 l9 x10 z11 l12 z13 l14 z15 l16 z17 l18 x19 x20 x21 x22 x23 z24 l25 z26 l27 z28 l29 z30 l31 x32 x33 x34 x35 x36) =
 cond (decide (x1 < nI (List.length l7)))
 (cond (decide ((0 : Int) ≤ x1) && decide (x1 < nI (List.length l7)))
 (cond (decide ((0 : Int) ≤ x1) && decide (x1 < nI (List.length l29)))
 (cond (decide ((0 : Int) ≤ x1) && decide (x1 < nI (List.length l29)))
 (lp k spec_l15Decay [] fu 4 n (qpe x0 (IntKind.wrap .i64 (x1 + (1 : Int))) z2 l3 z4 l5 z6 l7 z8 l9 x10 z11 l12 z13 l14 z15 l16 z17 l18 x19 x20 x21 x22 x23 z24 l25 z26 l27 z28 (List.set l29 (Int.toNat x1) (IntKind.wrap .i64 (List.getD l29 (Int.toNat x1) (0 : Int) - IntKind.wrap .i64 (Int.tdiv (IntKind.wrap .i64 (List.getD l7 (Int.toNat x1) (0 : Int) * x0)) (1000 : Int))))) z30 l31 x32 x33 x34 x35 (IntKind.wrap .i64 (x36 + IntKind.wrap .i64 (Int.tdiv (IntKind.wrap .i64 (List.getD l7 (Int.toNat x1) (0 : Int) * x0)) (1000 : Int))))))
 (none))
 (none))
 (none))
 (some [(.agg [(.int .i64 (x32)), (.arr true (z24) (.r3 (l25))), (.arr true (z26) (.ints .i64 (l27))), (.arr true (z28) (.ints .i64 (l29))), (.arr true (z30) (.ints .i64 (l31)))]), (.agg [(.int .i64 (x33)), (.int .i64 (x34)), (.int .i64 (x35)), (.int .i64 (x36))])]) := by kernel_rfl
def qpi (x0 x1 x2 x3 x4 x5 x6 x7 x8 x9 x10 : Int) (z11 : Bool) (l12 : List (Int × Int × Int)) (z13 : Bool) (l14 : List Int) (z15 : Bool) (l16 : List Int) (z17 : Bool) (l18 : List Int) (x19 x20 x21 x22 x23 : Int) (z24 : Bool) (l25 : List (Int × Int × Int)) (z26 : Bool) (l27 : List Int) (z28 : Bool) (l29 : List Int) (z30 : Bool) (l31 : List Int) (x32 x33 x34 x35 x36 : Int) : St := ⟨fill 79 [(2, (.int .i64 (x0))), (4, (.ptr 0 (0) (0))), (6, (.ptr 5 (0) (0))), (7, (.ptr 6 (0) (0))), (8, (.ptr 11 (0) (0))), (9, (.ptr 12 (0) (0))), (16, (.int .i64 (x1)))], [], [(.box true [(.int .i64 (x2)), (.int .i64 (x3)), (.int .i64 (x4)), (.int .i64 (x5)), (.int .i64 (x6)), (.int .i64 (x7)), (.int .i64 (x8)), (.int .i64 (x9)), (.int .i64 (x10))]), (.arr true (z11) (.r3 (l12))), (.arr true (z13) (.ints .i64 (l14))), (.arr true (z15) (.ints .i64 (l16))), (.arr true (z17) (.ints .i64 (l18))), (.box true [(.int .i64 (x19)), (.sl 1 none), (.sl 2 none), (.sl 3 none), (.sl 4 none)]), (.box true [(.int .i64 (x20)), (.int .i64 (x21)), (.int .i64 (x22)), (.int .i64 (x23))]), (.arr true (z24) (.r3 (l25))), (.arr true (z26) (.ints .i64 (l27))), (.arr true (z28) (.ints .i64 (l29))), (.arr true (z30) (.ints .i64 (l31))), (.box true [(.int .i64 (x32)), (.sl 7 none), (.sl 8 none), (.sl 9 none), (.sl 10 none)]), (.box true [(.int .i64 (x33)), (.int .i64 (x34)), (.int .i64 (x35)), (.int .i64 (x36))])]⟩
theorem qik (k : Nat) (a0 : Int) (a1z : Bool) (a1 : List (Int × Int × Int)) (a2z : Bool) (a2 : List Int) (a3z : Bool) (a3 : List Int) (a4z : Bool) (a4 : List Int) (b0 b1 b2 b3 b4 b5 b6 b7 b8 c : Int) : go (k + 1) spec_l18Macro [(.agg [(.int .i64 (a0)), (.arr false (a1z) (.r3 (a1))), (.arr false (a2z) (.ints .i64 (a2))), (.arr false (a3z) (.ints .i64 (a3))), (.arr false (a4z) (.ints .i64 (a4)))]), (.agg [(.int .i64 (b0)), (.int .i64 (b1)), (.int .i64 (b2)), (.int .i64 (b3)), (.int .i64 (b4)), (.int .i64 (b5)), (.int .i64 (b6)), (.int .i64 (b7)), (.int .i64 (b8))]), (.int .i64 (c))] =
 (go k spec_l13Apply [(.agg [(.int .i64 (a0)), (.arr false (a1z) (.r3 (a1))), (.arr false (a2z) (.ints .i64 (a2))), (.arr false (a3z) (.ints .i64 (a3))), (.arr false (a4z) (.ints .i64 (a4)))]), (.agg [(.int .i64 (b0)), (.int .i64 (b1)), (.int .i64 (b2))])]).bind fun r0 =>
 (go k spec_l14Rain [(.agg [(.int .i64 (D.toInt (D.cell 0 (nth r0 0)))), (.arr false (D.nil (D.cell 1 (nth r0 0))) (.r3 (D.r3 (D.cell 1 (nth r0 0))))), (.arr false (D.nil (D.cell 2 (nth r0 0))) (.ints .i64 (D.ints (D.cell 2 (nth r0 0))))), (.arr false (D.nil (D.cell 3 (nth r0 0))) (.ints .i64 (D.ints (D.cell 3 (nth r0 0))))), (.arr false (D.nil (D.cell 4 (nth r0 0))) (.ints .i64 (D.ints (D.cell 4 (nth r0 0)))))]), (.int .i64 (b3))]).bind fun r1 =>
 (go k spec_l14Soak [(.agg [(.int .i64 (D.toInt (D.cell 0 (nth r1 0)))), (.arr false (D.nil (D.cell 1 (nth r1 0))) (.r3 (D.r3 (D.cell 1 (nth r1 0))))), (.arr false (D.nil (D.cell 2 (nth r1 0))) (.ints .i64 (D.ints (D.cell 2 (nth r1 0))))), (.arr false (D.nil (D.cell 3 (nth r1 0))) (.ints .i64 (D.ints (D.cell 3 (nth r1 0))))), (.arr false (D.nil (D.cell 4 (nth r1 0))) (.ints .i64 (D.ints (D.cell 4 (nth r1 0)))))]), (.int .i64 (b4))]).bind fun r2 =>
 (go k spec_l15Decay [(.agg [(.int .i64 (D.toInt (D.cell 0 (nth r2 0)))), (.arr false (D.nil (D.cell 1 (nth r2 0))) (.r3 (D.r3 (D.cell 1 (nth r2 0))))), (.arr false (D.nil (D.cell 2 (nth r2 0))) (.ints .i64 (D.ints (D.cell 2 (nth r2 0))))), (.arr false (D.nil (D.cell 3 (nth r2 0))) (.ints .i64 (D.ints (D.cell 3 (nth r2 0))))), (.arr false (D.nil (D.cell 4 (nth r2 0))) (.ints .i64 (D.ints (D.cell 4 (nth r2 0)))))]), (.int .i64 (b5))]).bind fun r3 =>
 (go k spec_LedgerAdd [(.agg [(.int .i64 (D.toInt (D.cell 0 (nth r0 1)))), (.int .i64 (D.toInt (D.cell 1 (nth r0 1)))), (.int .i64 (D.toInt (D.cell 2 (nth r0 1)))), (.int .i64 (D.toInt (D.cell 3 (nth r0 1))))]), (.agg [(.int .i64 (D.toInt (D.cell 0 (nth r1 1)))), (.int .i64 (D.toInt (D.cell 1 (nth r1 1)))), (.int .i64 (D.toInt (D.cell 2 (nth r1 1)))), (.int .i64 (D.toInt (D.cell 3 (nth r1 1))))])]).bind fun r4 =>
 (go k spec_LedgerAdd [(.agg [(.int .i64 (D.toInt (D.cell 0 (nth r2 1)))), (.int .i64 (D.toInt (D.cell 1 (nth r2 1)))), (.int .i64 (D.toInt (D.cell 2 (nth r2 1)))), (.int .i64 (D.toInt (D.cell 3 (nth r2 1))))]), (.agg [(.int .i64 (D.toInt (D.cell 0 (nth r3 1)))), (.int .i64 (D.toInt (D.cell 1 (nth r3 1)))), (.int .i64 (D.toInt (D.cell 2 (nth r3 1)))), (.int .i64 (D.toInt (D.cell 3 (nth r3 1))))])]).bind fun r5 =>
 (go k spec_LedgerAdd [(.agg [(.int .i64 (D.toInt (D.cell 0 (nth r4 0)))), (.int .i64 (D.toInt (D.cell 1 (nth r4 0)))), (.int .i64 (D.toInt (D.cell 2 (nth r4 0)))), (.int .i64 (D.toInt (D.cell 3 (nth r4 0))))]), (.agg [(.int .i64 (D.toInt (D.cell 0 (nth r5 0)))), (.int .i64 (D.toInt (D.cell 1 (nth r5 0)))), (.int .i64 (D.toInt (D.cell 2 (nth r5 0)))), (.int .i64 (D.toInt (D.cell 3 (nth r5 0))))])]).bind fun r6 =>
 lp k spec_l18Macro [] [] 8 k (qpi c (0 : Int) b0 b1 b2 b3 b4 b5 b6 b7 b8 true ([]) true ([]) true ([]) true ([]) (0 : Int) (0 : Int) (0 : Int) (0 : Int) (0 : Int) (D.nil (D.cell 1 (nth r3 0))) (D.r3 (D.cell 1 (nth r3 0))) (D.nil (D.cell 2 (nth r3 0))) (D.ints (D.cell 2 (nth r3 0))) (D.nil (D.cell 3 (nth r3 0))) (D.ints (D.cell 3 (nth r3 0))) (D.nil (D.cell 4 (nth r3 0))) (D.ints (D.cell 4 (nth r3 0))) (D.toInt (D.cell 0 (nth r3 0))) (D.toInt (D.cell 0 (nth r6 0))) (D.toInt (D.cell 1 (nth r6 0))) (D.toInt (D.cell 2 (nth r6 0))) (D.toInt (D.cell 3 (nth r6 0)))) := by kernel_rfl
theorem qk1 (k n : Nat) (fu : List (Nat × Nat)) (x0 x1 x2 x3 x4 x5 x6 x7 x8 x9 x10 : Int) (z11 : Bool) (l12 : List (Int × Int × Int)) (z13 : Bool) (l14 : List Int) (z15 : Bool) (l16 : List Int) (z17 : Bool) (l18 : List Int) (x19 x20 x21 x22 x23 : Int) (z24 : Bool) (l25 : List (Int × Int × Int)) (z26 : Bool) (l27 : List Int) (z28 : Bool) (l29 : List Int) (z30 : Bool) (l31 : List Int) (x32 x33 x34 x35 x36 : Int) : lp k spec_l18Macro [] fu 8 (n + 1) (qpi x0 x1 x2 x3 x4 x5 x6 x7 x8 x9 x10 z11 l12 z13 l14 z15 l16 z17 l18 x19 x20 x21 x22 x23 z24 l25 z26 l27 z28 l29 z30 l31 x32 x33 x34 x35 x36) =
 cond (decide (x1 < (16 : Int)))
 ((go k spec_l11Step [(.agg [(.int .i64 (x32)), (.arr false (z24) (.r3 (l25))), (.arr false (z26) (.ints .i64 (l27))), (.arr false (z28) (.ints .i64 (l29))), (.arr false (z30) (.ints .i64 (l31)))]), (.int .i64 (x1))]).bind fun r0 =>
 lp k spec_l18Macro [] fu 8 n (qpi x0 (IntKind.wrap .i64 (x1 + (1 : Int))) x2 x3 x4 x5 x6 x7 x8 x9 x10 z11 l12 z13 l14 z15 l16 z17 l18 x19 x20 x21 x22 x23 (D.nil (D.cell 1 (nth r0 0))) (D.r3 (D.cell 1 (nth r0 0))) (D.nil (D.cell 2 (nth r0 0))) (D.ints (D.cell 2 (nth r0 0))) (D.nil (D.cell 3 (nth r0 0))) (D.ints (D.cell 3 (nth r0 0))) (D.nil (D.cell 4 (nth r0 0))) (D.ints (D.cell 4 (nth r0 0))) (D.toInt (D.cell 0 (nth r0 0))) x33 x34 x35 x36))
 (cond (decide ((0 : Int) < x10))
 (cond (!decide (x10 = (0 : Int)))
 (cond (decide (Int.tmod (IntKind.wrap .i64 (x0 + (1 : Int))) x10 = (0 : Int)))
 ((go k spec_l17Adapt [(.agg [(.int .i64 (x32)), (.arr false (z24) (.r3 (l25))), (.arr false (z26) (.ints .i64 (l27))), (.arr false (z28) (.ints .i64 (l29))), (.arr false (z30) (.ints .i64 (l31)))]), (.int .i64 (x8)), (.int .i64 (x9))]).bind fun r1 =>
 some [(.agg [(.int .i64 (D.toInt (D.cell 0 (nth r1 0)))), (.arr true (D.nil (D.cell 1 (nth r1 0))) (.r3 (D.r3 (D.cell 1 (nth r1 0))))), (.arr true (D.nil (D.cell 2 (nth r1 0))) (.ints .i64 (D.ints (D.cell 2 (nth r1 0))))), (.arr true (D.nil (D.cell 3 (nth r1 0))) (.ints .i64 (D.ints (D.cell 3 (nth r1 0))))), (.arr true (D.nil (D.cell 4 (nth r1 0))) (.ints .i64 (D.ints (D.cell 4 (nth r1 0)))))]), (.agg [(.int .i64 (x33)), (.int .i64 (x34)), (.int .i64 (x35)), (.int .i64 (x36))])])
 (some [(.agg [(.int .i64 (x32)), (.arr true (z24) (.r3 (l25))), (.arr true (z26) (.ints .i64 (l27))), (.arr true (z28) (.ints .i64 (l29))), (.arr true (z30) (.ints .i64 (l31)))]), (.agg [(.int .i64 (x33)), (.int .i64 (x34)), (.int .i64 (x35)), (.int .i64 (x36))])]))
 (none))
 (some [(.agg [(.int .i64 (x32)), (.arr true (z24) (.r3 (l25))), (.arr true (z26) (.ints .i64 (l27))), (.arr true (z28) (.ints .i64 (l29))), (.arr true (z30) (.ints .i64 (l31)))]), (.agg [(.int .i64 (x33)), (.int .i64 (x34)), (.int .i64 (x35)), (.int .i64 (x36))])])) := by kernel_rfl

end Go.Proofs.YtjfjniebmdafeaaGreatDoor
end
