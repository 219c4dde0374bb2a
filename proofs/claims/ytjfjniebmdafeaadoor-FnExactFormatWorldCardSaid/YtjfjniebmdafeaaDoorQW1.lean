/- What the program's functions compute, and plain facts of it (part 1). No condition beyond those that each theorem states. -/
import Derived.Test.YtjfjniebmdafeaaDoorXA
import Derived.Shelf.Strings.Builder1
import Derived.Shelf.LaysM
import Derived.Shelf.Strconv.Itoa3
import Derived.Test.YtjfjniebmdafeaaDoorProg
import Derived.Test.YtjfjniebmdafeaaDoorSB
import Derived.WalkKit
import Derived.BigCall
import Derived.KernelRfl
import Derived.ProofKit
import Derived.Shelf.Strings.BuilderF
import Derived.Shelf.Strings.BuilderK
import Derived.Deep.QuietTactic
import Derived.BigQuiet
set_option linter.unusedVariables false
set_option linter.unusedSimpArgs false
section
namespace Go.Proofs.YtjfjniebmdafeaaDoor
open Go.Ev
set_option maxRecDepth 20000
def qj9 (x0 : Int) (z1 : Bool) (l2 : List (Int × Int × Int)) (x3 : Int) (z4 : Bool) (l5 : List Int) : St := ⟨fill 51 [(1, (.ptr 1 (0) (0))), (3, (.sl 2 none)), (4, (.int .i64 (x0)))], [], [(.arr false (z1) (.r3 (l2))), (.box true [(.int .i64 (x3)), (.sl 0 none)]), (.arr true (z4) (.ints IntKind.u8 (l5)))]⟩
theorem qfy (k : Nat) (a0 : Int) (a1z : Bool) (a1 : List (Int × Int × Int)) : go (k + 1) spec_FormatMesh [(.agg [(.int .i64 (a0)), (.arr false (a1z) (.r3 (a1)))])] =
 lp k spec_FormatMesh [] [] 3 k (qj9 (0 : Int) a1z a1 a0 false ([])) := by kernel_rfl
theorem qhw (k n : Nat) (fu : List (Nat × Nat)) (x0 : Int) (z1 : Bool) (l2 : List (Int × Int × Int)) (x3 : Int) (z4 : Bool) (l5 : List Int) : lp k spec_FormatMesh [] fu 3 (n + 1) (qj9 x0 z1 l2 x3 z4 l5) =
 cond (decide (x0 < nI (List.length l2)))
 ((go k spec_MeshOk [(.agg [(.int .i64 (x3)), (.arr false (z1) (.r3 (l2)))])]).bind fun r0 =>
 cond (bit (nth r0 0))
 (cond (decide ((0 : Int) < x0))
 (cond (decide ((0 : Int) ≤ x0) && decide (x0 < nI (List.length l2)))
 (cond (decide ((0 : Int) ≤ IntKind.wrap .i64 (x0 - (1 : Int))) && decide (IntKind.wrap .i64 (x0 - (1 : Int)) < nI (List.length l2)))
 (cond (!decide (Prod.fst (List.getD l2 (Int.toNat x0) zz3) = Prod.fst (List.getD l2 (Int.toNat (IntKind.wrap .i64 (x0 - (1 : Int)))) zz3)))
 (cond (decide (List.length (l5 ++ [(124 : Int)]) ≤ bigLen))
 (cond (decide ((0 : Int) ≤ x0) && decide (x0 < nI (List.length l2)))
 (cond (decide (List.length (l5 ++ [(124 : Int)] ++ [IntKind.wrap IntKind.u8 (IntKind.wrap .i64 ((48 : Int) + Prod.fst (Prod.snd (List.getD l2 (Int.toNat x0) zz3))))]) ≤ bigLen))
 (lp k spec_FormatMesh [] fu 3 n (qj9 (IntKind.wrap .i64 (x0 + (1 : Int))) z1 l2 x3 (z4 && decide (List.length (l5 ++ [(124 : Int)]) = 0) && decide (List.length (l5 ++ [(124 : Int)] ++ [IntKind.wrap IntKind.u8 (IntKind.wrap .i64 ((48 : Int) + Prod.fst (Prod.snd (List.getD l2 (Int.toNat x0) zz3))))]) = 0)) (l5 ++ [(124 : Int)] ++ [IntKind.wrap IntKind.u8 (IntKind.wrap .i64 ((48 : Int) + Prod.fst (Prod.snd (List.getD l2 (Int.toNat x0) zz3))))])))
 (none))
 (none))
 (none))
 (cond (decide ((0 : Int) ≤ x0) && decide (x0 < nI (List.length l2)))
 (cond (decide (List.length (l5 ++ [IntKind.wrap IntKind.u8 (IntKind.wrap .i64 ((48 : Int) + Prod.fst (Prod.snd (List.getD l2 (Int.toNat x0) zz3))))]) ≤ bigLen))
 (lp k spec_FormatMesh [] fu 3 n (qj9 (IntKind.wrap .i64 (x0 + (1 : Int))) z1 l2 x3 (z4 && decide (List.length (l5 ++ [IntKind.wrap IntKind.u8 (IntKind.wrap .i64 ((48 : Int) + Prod.fst (Prod.snd (List.getD l2 (Int.toNat x0) zz3))))]) = 0)) (l5 ++ [IntKind.wrap IntKind.u8 (IntKind.wrap .i64 ((48 : Int) + Prod.fst (Prod.snd (List.getD l2 (Int.toNat x0) zz3))))])))
 (none))
 (none)))
 (none))
 (none))
 (cond (decide ((0 : Int) ≤ x0) && decide (x0 < nI (List.length l2)))
 (cond (decide (List.length (l5 ++ [IntKind.wrap IntKind.u8 (IntKind.wrap .i64 ((48 : Int) + Prod.fst (Prod.snd (List.getD l2 (Int.toNat x0) zz3))))]) ≤ bigLen))
 (lp k spec_FormatMesh [] fu 3 n (qj9 (IntKind.wrap .i64 (x0 + (1 : Int))) z1 l2 x3 (z4 && decide (List.length (l5 ++ [IntKind.wrap IntKind.u8 (IntKind.wrap .i64 ((48 : Int) + Prod.fst (Prod.snd (List.getD l2 (Int.toNat x0) zz3))))]) = 0)) (l5 ++ [IntKind.wrap IntKind.u8 (IntKind.wrap .i64 ((48 : Int) + Prod.fst (Prod.snd (List.getD l2 (Int.toNat x0) zz3))))])))
 (none))
 (none)))
 (some [(.str (strL l5))]))
 (some [(.str (strL l5))]) := by kernel_rfl
def qj6 (x0 x1 : Int) (z2 : Bool) (l3 : List (Int × Int × Int)) (z4 : Bool) (l5 : List Int) (z6 : Bool) (l7 : List Int) (z8 : Bool) (l9 : List Int) (x10 : Int) : St := ⟨fill 58 [(1, (.ptr 4 (0) (0))), (3, (.int .i64 (x0))), (4, (.int .i64 (x1)))], [], [(.arr false (z2) (.r3 (l3))), (.arr false (z4) (.ints .i64 (l5))), (.arr false (z6) (.ints .i64 (l7))), (.arr false (z8) (.ints .i64 (l9))), (.box true [(.int .i64 (x10)), (.sl 0 none), (.sl 1 none), (.sl 2 none), (.sl 3 none)])]⟩
def qj7 (x0 x1 : Int) (z2 : Bool) (l3 : List (Int × Int × Int)) (z4 : Bool) (l5 : List Int) (z6 : Bool) (l7 : List Int) (z8 : Bool) (l9 : List Int) (x10 : Int) : St := ⟨fill 58 [(1, (.ptr 4 (0) (0))), (3, (.int .i64 (x0))), (5, (.int .i64 (x1)))], [], [(.arr false (z2) (.r3 (l3))), (.arr false (z4) (.ints .i64 (l5))), (.arr false (z6) (.ints .i64 (l7))), (.arr false (z8) (.ints .i64 (l9))), (.box true [(.int .i64 (x10)), (.sl 0 none), (.sl 1 none), (.sl 2 none), (.sl 3 none)])]⟩
theorem qfw (k : Nat) (a0 : Int) (a1z : Bool) (a1 : List (Int × Int × Int)) (a2z : Bool) (a2 : List Int) (a3z : Bool) (a3 : List Int) (a4z : Bool) (a4 : List Int) : go (k + 1) spec_DigestOf [(.agg [(.int .i64 (a0)), (.arr false (a1z) (.r3 (a1))), (.arr false (a2z) (.ints .i64 (a2))), (.arr false (a3z) (.ints .i64 (a3))), (.arr false (a4z) (.ints .i64 (a4)))])] =
 (go k spec_StateOk [(.agg [(.int .i64 (a0)), (.arr false (a1z) (.r3 (a1))), (.arr false (a2z) (.ints .i64 (a2))), (.arr false (a3z) (.ints .i64 (a3))), (.arr false (a4z) (.ints .i64 (a4)))])]).bind fun r0 =>
 cond (!bit (nth r0 0))
 (some [(.int .i64 ((-1 : Int)))])
 (lp k spec_DigestOf [] [] 5 k (qj6 ((1 : Int)) (0 : Int) a1z a1 a2z a2 a3z a3 a4z a4 a0)) := by kernel_rfl
theorem qht (k n : Nat) (fu : List (Nat × Nat)) (x0 x1 : Int) (z2 : Bool) (l3 : List (Int × Int × Int)) (z4 : Bool) (l5 : List Int) (z6 : Bool) (l7 : List Int) (z8 : Bool) (l9 : List Int) (x10 : Int) : lp k spec_DigestOf [] fu 5 (n + 1) (qj6 x0 x1 z2 l3 z4 l5 z6 l7 z8 l9 x10) =
 cond (decide (x1 < nI (List.length l5)))
 (cond (decide ((0 : Int) ≤ x1) && decide (x1 < nI (List.length l3)))
 (cond (decide ((0 : Int) ≤ x1) && decide (x1 < nI (List.length l5)))
 (cond (decide ((0 : Int) ≤ x1) && decide (x1 < nI (List.length l7)))
 (lp k spec_DigestOf [] fu 5 n (qj6 (Int.tmod (IntKind.wrap .i64 (IntKind.wrap .i64 (IntKind.wrap .i64 (IntKind.wrap .i64 (IntKind.wrap .i64 (IntKind.wrap .i64 (x0 * (31 : Int)) + Prod.fst (Prod.snd (List.getD l3 (Int.toNat x1) zz3))) * (31 : Int)) + List.getD l5 (Int.toNat x1) (0 : Int)) * (31 : Int)) + List.getD l7 (Int.toNat x1) (0 : Int))) (1000003 : Int)) (IntKind.wrap .i64 (x1 + (1 : Int))) z2 l3 z4 l5 z6 l7 z8 l9 x10))
 (none))
 (none))
 (none))
 (lp k spec_DigestOf [] fu 9 k (qj7 x0 (0 : Int) z2 l3 z4 l5 z6 l7 z8 l9 x10)) := by kernel_rfl
theorem qhu (k n : Nat) (fu : List (Nat × Nat)) (x0 x1 : Int) (z2 : Bool) (l3 : List (Int × Int × Int)) (z4 : Bool) (l5 : List Int) (z6 : Bool) (l7 : List Int) (z8 : Bool) (l9 : List Int) (x10 : Int) : lp k spec_DigestOf [] fu 9 (n + 1) (qj7 x0 x1 z2 l3 z4 l5 z6 l7 z8 l9 x10) =
 cond (decide (x1 < nI (List.length l9)))
 (cond (decide ((0 : Int) ≤ x1) && decide (x1 < nI (List.length l9)))
 (lp k spec_DigestOf [] fu 9 n (qj7 (Int.tmod (IntKind.wrap .i64 (IntKind.wrap .i64 (x0 * (31 : Int)) + List.getD l9 (Int.toNat x1) (0 : Int))) (1000003 : Int)) (IntKind.wrap .i64 (x1 + (1 : Int))) z2 l3 z4 l5 z6 l7 z8 l9 x10))
 (none))
 (some [(.int .i64 (x0))]) := by kernel_rfl
def qjp (x0 x1 x2 : Int) (z3 : Bool) (l4 : List Int) : St := ⟨fill 55 [(3, (.int .i64 (x0))), (42, (.sl 0 none)), (43, (.int .i64 (x1))), (44, (.int .i64 (x2)))], [], [(.arr false (z3) (.ints .i64 (l4)))]⟩
def qjq (x0 x1 x2 : Int) (z3 : Bool) (l4 : List (Int × Int × Int)) (z5 : Bool) (l6 : List Int) (z7 : Bool) (l8 : List Int) (z9 : Bool) (l10 : List Int) (x11 : Int) : St := ⟨fill 55 [(1, (.ptr 4 (0) (0))), (3, (.int .i64 (x0))), (13, (.sl 0 none)), (14, (.int .i64 (x1))), (15, (.int .i64 (x2)))], [], [(.arr false (z3) (.r3 (l4))), (.arr false (z5) (.ints .i64 (l6))), (.arr false (z7) (.ints .i64 (l8))), (.arr false (z9) (.ints .i64 (l10))), (.box true [(.int .i64 (x11)), (.sl 0 none), (.sl 1 none), (.sl 2 none), (.sl 3 none)])]⟩
theorem qd3 (k : Nat) (a0 : Int) (a1z : Bool) (a1 : List (Int × Int × Int)) (a2z : Bool) (a2 : List Int) (a3z : Bool) (a3 : List Int) (a4z : Bool) (a4 : List Int) : go (k + 1) impl_DigestOf [(.agg [(.int .i64 (a0)), (.arr false (a1z) (.r3 (a1))), (.arr false (a2z) (.ints .i64 (a2))), (.arr false (a3z) (.ints .i64 (a3))), (.arr false (a4z) (.ints .i64 (a4)))])] =
 (go k impl_StateOk [(.agg [(.int .i64 (a0)), (.arr false (a1z) (.r3 (a1))), (.arr false (a2z) (.ints .i64 (a2))), (.arr false (a3z) (.ints .i64 (a3))), (.arr false (a4z) (.ints .i64 (a4)))])]).bind fun r0 =>
 cond (!bit (nth r0 0))
 (some [(.int .i64 ((-1 : Int)))])
 (lp k impl_DigestOf [] [] 5 k (qjq ((1 : Int)) (nI (List.length a1)) (0 : Int) a1z a1 a2z a2 a3z a3 a4z a4 a0)) := by kernel_rfl
theorem qhb (k n : Nat) (fu : List (Nat × Nat)) (x0 x1 x2 : Int) (z3 : Bool) (l4 : List Int) : lp k impl_DigestOf [] fu 10 (n + 1) (qjp x0 x1 x2 z3 l4) =
 cond (decide (x2 < x1))
 (cond (decide ((0 : Int) ≤ x2) && decide (x2 < nI (List.length l4)))
 (lp k impl_DigestOf [] fu 10 n (qjp (Int.tmod (IntKind.wrap .i64 (IntKind.wrap .i64 (x0 * (31 : Int)) + List.getD l4 (Int.toNat x2) (0 : Int))) (1000003 : Int)) x1 (IntKind.wrap .i64 (x2 + (1 : Int))) z3 l4))
 (none))
 (some [(.int .i64 (x0))]) := by kernel_rfl
theorem qhc (k n : Nat) (fu : List (Nat × Nat)) (x0 x1 x2 : Int) (z3 : Bool) (l4 : List (Int × Int × Int)) (z5 : Bool) (l6 : List Int) (z7 : Bool) (l8 : List Int) (z9 : Bool) (l10 : List Int) (x11 : Int) : lp k impl_DigestOf [] fu 5 (n + 1) (qjq x0 x1 x2 z3 l4 z5 l6 z7 l8 z9 l10 x11) =
 cond (decide (x2 < x1))
 (cond (decide ((0 : Int) ≤ x2) && decide (x2 < nI (List.length l4)))
 (cond (decide ((0 : Int) ≤ x2) && decide (x2 < nI (List.length l6)))
 (cond (decide ((0 : Int) ≤ x2) && decide (x2 < nI (List.length l8)))
 (lp k impl_DigestOf [] fu 5 n (qjq (Int.tmod (IntKind.wrap .i64 (IntKind.wrap .i64 (IntKind.wrap .i64 (IntKind.wrap .i64 (IntKind.wrap .i64 (IntKind.wrap .i64 (x0 * (31 : Int)) + Prod.fst (Prod.snd (List.getD l4 (Int.toNat x2) zz3))) * (31 : Int)) + List.getD l6 (Int.toNat x2) (0 : Int)) * (31 : Int)) + List.getD l8 (Int.toNat x2) (0 : Int))) (1000003 : Int)) x1 (IntKind.wrap .i64 (x2 + (1 : Int))) z3 l4 z5 l6 z7 l8 z9 l10 x11))
 (none))
 (none))
 (none))
 (lp k impl_DigestOf [] fu 10 k (qjp x0 (nI (List.length l10)) (0 : Int) z9 l10)) := by kernel_rfl
theorem qfz (k : Nat) (a0 : Int) (a1z : Bool) (a1 : List (Int × Int × Int)) (a2z : Bool) (a2 : List Int) (a3z : Bool) (a3 : List Int) (a4z : Bool) (a4 : List Int) (a5 a6 a7 a8 a9 a10 a11 a12 a13 a14 a15 a16 a17 a18 a19 a20 : Int) : go (k + 1) spec_FormatWorld [(.agg [(.int .i64 (a0)), (.arr false (a1z) (.r3 (a1))), (.arr false (a2z) (.ints .i64 (a2))), (.arr false (a3z) (.ints .i64 (a3))), (.arr false (a4z) (.ints .i64 (a4))), (.int .i64 (a5)), (.int .i64 (a6)), (.int .i64 (a7)), (.int .i64 (a8)), (.int .i64 (a9)), (.int .i64 (a10)), (.int .i64 (a11)), (.int .i64 (a12)), (.int .i64 (a13)), (.int .i64 (a14)), (.int .i64 (a15)), (.int .i64 (a16)), (.int .i64 (a17)), (.int .i64 (a18)), (.int .i64 (a19)), (.int .i64 (a20))])] =
 (go k spec_WorldOk [(.agg [(.int .i64 (a0)), (.arr false (a1z) (.r3 (a1))), (.arr false (a2z) (.ints .i64 (a2))), (.arr false (a3z) (.ints .i64 (a3))), (.arr false (a4z) (.ints .i64 (a4))), (.int .i64 (a5)), (.int .i64 (a6)), (.int .i64 (a7)), (.int .i64 (a8)), (.int .i64 (a9)), (.int .i64 (a10)), (.int .i64 (a11)), (.int .i64 (a12)), (.int .i64 (a13)), (.int .i64 (a14)), (.int .i64 (a15)), (.int .i64 (a16)), (.int .i64 (a17)), (.int .i64 (a18)), (.int .i64 (a19)), (.int .i64 (a20))])]).bind fun r0 =>
 cond (!bit (nth r0 0))
 (some [(.arr true (false) (.strs ([])))])
 ((go k spec_FormatInt [(.int .i64 (a14))]).bind fun r1 =>
 cond (decide (ByteArray.size { data := #[(115 : UInt8), (116 : UInt8), (101 : UInt8), (112 : UInt8), (32 : UInt8)] } + ByteArray.size (D.toStr (nth r1 0)) ≤ (4611686018427387904 : Nat)))
 ((go k spec_FormatMesh [(.agg [(.int .i64 (a0)), (.arr false (a1z) (.r3 (a1)))])]).bind fun r2 =>
 cond (decide (ByteArray.size { data := #[(109 : UInt8), (101 : UInt8), (115 : UInt8), (104 : UInt8), (32 : UInt8)] } + ByteArray.size (D.toStr (nth r2 0)) ≤ (4611686018427387904 : Nat)))
 ((go k spec_l07Sum [(.arr false (a2z) (.ints .i64 (a2)))]).bind fun r3 =>
 (go k spec_FormatInt [(.int .i64 (D.toInt (nth r3 0)))]).bind fun r4 =>
 cond (decide (ByteArray.size { data := #[(109 : UInt8), (97 : UInt8), (115 : UInt8), (115 : UInt8), (32 : UInt8)] } + ByteArray.size (D.toStr (nth r4 0)) ≤ (4611686018427387904 : Nat)))
 ((go k spec_l07Sum [(.arr false (a3z) (.ints .i64 (a3)))]).bind fun r5 =>
 (go k spec_FormatInt [(.int .i64 (D.toInt (nth r5 0)))]).bind fun r6 =>
 cond (decide (ByteArray.size { data := #[(116 : UInt8), (114 : UInt8), (97 : UInt8), (99 : UInt8), (101 : UInt8), (114 : UInt8), (32 : UInt8)] } + ByteArray.size (D.toStr (nth r6 0)) ≤ (4611686018427387904 : Nat)))
 ((go k spec_FormatInt [(.int .i64 (a15))]).bind fun r7 =>
 cond (decide (ByteArray.size { data := #[(105 : UInt8), (110 : UInt8), (32 : UInt8)] } + ByteArray.size (D.toStr (nth r7 0)) ≤ (4611686018427387904 : Nat)))
 ((go k spec_FormatInt [(.int .i64 (a16))]).bind fun r8 =>
 cond (decide (ByteArray.size { data := #[(111 : UInt8), (117 : UInt8), (116 : UInt8), (32 : UInt8)] } + ByteArray.size (D.toStr (nth r8 0)) ≤ (4611686018427387904 : Nat)))
 ((go k spec_DigestOf [(.agg [(.int .i64 (a0)), (.arr false (a1z) (.r3 (a1))), (.arr false (a2z) (.ints .i64 (a2))), (.arr false (a3z) (.ints .i64 (a3))), (.arr false (a4z) (.ints .i64 (a4)))])]).bind fun r9 =>
 (go k spec_FormatInt [(.int .i64 (D.toInt (nth r9 0)))]).bind fun r10 =>
 cond (decide (ByteArray.size { data := #[(100 : UInt8), (105 : UInt8), (103 : UInt8), (101 : UInt8), (115 : UInt8), (116 : UInt8), (32 : UInt8)] } + ByteArray.size (D.toStr (nth r10 0)) ≤ (4611686018427387904 : Nat)))
 (some [(.arr true (false) (.strs ([{ data := #[(115 : UInt8), (116 : UInt8), (101 : UInt8), (112 : UInt8), (32 : UInt8)] } ++ D.toStr (nth r1 0), { data := #[(109 : UInt8), (101 : UInt8), (115 : UInt8), (104 : UInt8), (32 : UInt8)] } ++ D.toStr (nth r2 0), { data := #[(109 : UInt8), (97 : UInt8), (115 : UInt8), (115 : UInt8), (32 : UInt8)] } ++ D.toStr (nth r4 0), { data := #[(116 : UInt8), (114 : UInt8), (97 : UInt8), (99 : UInt8), (101 : UInt8), (114 : UInt8), (32 : UInt8)] } ++ D.toStr (nth r6 0), { data := #[(105 : UInt8), (110 : UInt8), (32 : UInt8)] } ++ D.toStr (nth r7 0), { data := #[(111 : UInt8), (117 : UInt8), (116 : UInt8), (32 : UInt8)] } ++ D.toStr (nth r8 0), { data := #[(100 : UInt8), (105 : UInt8), (103 : UInt8), (101 : UInt8), (115 : UInt8), (116 : UInt8), (32 : UInt8)] } ++ D.toStr (nth r10 0)])))])
 (none))
 (none))
 (none))
 (none))
 (none))
 (none))
 (none)) := by kernel_rfl
theorem qd4 (k : Nat) (a0 : Int) (a1z : Bool) (a1 : List (Int × Int × Int)) (a2z : Bool) (a2 : List Int) (a3z : Bool) (a3 : List Int) (a4z : Bool) (a4 : List Int) (a5 a6 a7 a8 a9 a10 a11 a12 a13 a14 a15 a16 a17 a18 a19 a20 : Int) : go (k + 1) impl_FormatWorld [(.agg [(.int .i64 (a0)), (.arr false (a1z) (.r3 (a1))), (.arr false (a2z) (.ints .i64 (a2))), (.arr false (a3z) (.ints .i64 (a3))), (.arr false (a4z) (.ints .i64 (a4))), (.int .i64 (a5)), (.int .i64 (a6)), (.int .i64 (a7)), (.int .i64 (a8)), (.int .i64 (a9)), (.int .i64 (a10)), (.int .i64 (a11)), (.int .i64 (a12)), (.int .i64 (a13)), (.int .i64 (a14)), (.int .i64 (a15)), (.int .i64 (a16)), (.int .i64 (a17)), (.int .i64 (a18)), (.int .i64 (a19)), (.int .i64 (a20))])] =
 (go k impl_WorldOk [(.agg [(.int .i64 (a0)), (.arr false (a1z) (.r3 (a1))), (.arr false (a2z) (.ints .i64 (a2))), (.arr false (a3z) (.ints .i64 (a3))), (.arr false (a4z) (.ints .i64 (a4))), (.int .i64 (a5)), (.int .i64 (a6)), (.int .i64 (a7)), (.int .i64 (a8)), (.int .i64 (a9)), (.int .i64 (a10)), (.int .i64 (a11)), (.int .i64 (a12)), (.int .i64 (a13)), (.int .i64 (a14)), (.int .i64 (a15)), (.int .i64 (a16)), (.int .i64 (a17)), (.int .i64 (a18)), (.int .i64 (a19)), (.int .i64 (a20))])]).bind fun r0 =>
 cond (!bit (nth r0 0))
 (some [(.arr true (true) (.strs ([])))])
 ((go k impl_spaced [(.str ({ data := #[(115 : UInt8), (116 : UInt8), (101 : UInt8), (112 : UInt8)] })), (.arr false (false) (.ints .i64 ([a14])))]).bind fun r1 =>
 (go k impl_FormatMesh [(.agg [(.int .i64 (a0)), (.arr false (a1z) (.r3 (a1)))])]).bind fun r2 =>
 cond (decide (ByteArray.size { data := #[(109 : UInt8), (101 : UInt8), (115 : UInt8), (104 : UInt8), (32 : UInt8)] } + ByteArray.size (D.toStr (nth r2 0)) ≤ (4611686018427387904 : Nat)))
 ((go k impl_sum [(.arr false (a2z) (.ints .i64 (a2)))]).bind fun r3 =>
 (go k impl_spaced [(.str ({ data := #[(109 : UInt8), (97 : UInt8), (115 : UInt8), (115 : UInt8)] })), (.arr false (false) (.ints .i64 ([D.toInt (nth r3 0)])))]).bind fun r4 =>
 (go k impl_sum [(.arr false (a3z) (.ints .i64 (a3)))]).bind fun r5 =>
 (go k impl_spaced [(.str ({ data := #[(116 : UInt8), (114 : UInt8), (97 : UInt8), (99 : UInt8), (101 : UInt8), (114 : UInt8)] })), (.arr false (false) (.ints .i64 ([D.toInt (nth r5 0)])))]).bind fun r6 =>
 (go k impl_spaced [(.str ({ data := #[(105 : UInt8), (110 : UInt8)] })), (.arr false (false) (.ints .i64 ([a15])))]).bind fun r7 =>
 (go k impl_spaced [(.str ({ data := #[(111 : UInt8), (117 : UInt8), (116 : UInt8)] })), (.arr false (false) (.ints .i64 ([a16])))]).bind fun r8 =>
 (go k impl_DigestOf [(.agg [(.int .i64 (a0)), (.arr false (a1z) (.r3 (a1))), (.arr false (a2z) (.ints .i64 (a2))), (.arr false (a3z) (.ints .i64 (a3))), (.arr false (a4z) (.ints .i64 (a4)))])]).bind fun r9 =>
 (go k impl_spaced [(.str ({ data := #[(100 : UInt8), (105 : UInt8), (103 : UInt8), (101 : UInt8), (115 : UInt8), (116 : UInt8)] })), (.arr false (false) (.ints .i64 ([D.toInt (nth r9 0)])))]).bind fun r10 =>
 some [(.arr true (false) (.strs ([D.toStr (nth r1 0), { data := #[(109 : UInt8), (101 : UInt8), (115 : UInt8), (104 : UInt8), (32 : UInt8)] } ++ D.toStr (nth r2 0), D.toStr (nth r4 0), D.toStr (nth r6 0), D.toStr (nth r7 0), D.toStr (nth r8 0), D.toStr (nth r10 0)])))])
 (none)) := by kernel_rfl
def qjx (x0 : Int) (z1 : Bool) (l2 : List ByteArray) (z3 : Bool) (l4 : List ByteArray) : St := ⟨fill 26 [(0, (.sl 0 none)), (1, (.sl 1 none)), (5, (.int .i64 (x0)))], [], [(.arr false (z1) (.strs (l2))), (.arr false (z3) (.strs (l4)))]⟩
theorem qe5 (k : Nat) (az : Bool) (a : List ByteArray) (bz : Bool) (b : List ByteArray) : go (k + 1) laws_eqStringS [(.arr false (az) (.strs (a))), (.arr false (bz) (.strs (b)))] =
 cond (!decide (nI (List.length a) = nI (List.length b)))
 (some [(.bool (false))])
 (lp k laws_eqStringS [] [] 4 k (qjx (0 : Int) az a bz b)) := by kernel_rfl
theorem qhk (k n : Nat) (fu : List (Nat × Nat)) (x0 : Int) (z1 : Bool) (l2 : List ByteArray) (z3 : Bool) (l4 : List ByteArray) : lp k laws_eqStringS [] fu 4 (n + 1) (qjx x0 z1 l2 z3 l4) =
 cond (decide (x0 < nI (List.length l2)))
 (cond (decide ((0 : Int) ≤ x0) && decide (x0 < nI (List.length l2)))
 (cond (decide ((0 : Int) ≤ x0) && decide (x0 < nI (List.length l4)))
 (cond (!decide (List.getD l2 (Int.toNat x0) ByteArray.empty = List.getD l4 (Int.toNat x0) ByteArray.empty))
 (some [(.bool (false))])
 (lp k laws_eqStringS [] fu 4 n (qjx (IntKind.wrap .i64 (x0 + (1 : Int))) z1 l2 z3 l4)))
 (none))
 (none))
 (some [(.bool (true))]) := by kernel_rfl
def qj1 (x0 x1 : Int) (z2 : Bool) (l3 : List ByteArray) : St := ⟨fill 20 [(0, (.sl 0 none)), (1, (.int .i64 (x0))), (5, (.int .i64 (x1)))], [(.sl 0 none)], [(.arr true (z2) (.strs (l3)))]⟩
theorem qfc (k : Nat) (az : Bool) (a : List ByteArray) (b : Int) : go (k + 1) laws_markStringS [(.arr true (az) (.strs (a))), (.int .i64 (b))] =
 lp k laws_markStringS [(.arr true (az) (.strs (a)))] [] 2 k (qj1 b (0 : Int) az a) := by kernel_rfl
theorem qho (k n : Nat) (fu : List (Nat × Nat)) (az : Bool) (a : List ByteArray) (x0 x1 : Int) (z2 : Bool) (l3 : List ByteArray) : lp k laws_markStringS [(.arr true (az) (.strs (a)))] fu 2 (n + 1) (qj1 x0 x1 z2 l3) =
 cond (decide (x1 < nI (List.length l3)))
 ((go k laws_markText [(.int .i64 (x0))]).bind fun r0 =>
 cond (decide ((0 : Int) ≤ x1) && decide (x1 < nI (List.length l3)))
 (lp k laws_markStringS [(.arr true (az) (.strs (a)))] fu 2 n (qj1 (IntKind.wrap .i64 (x0 + (1 : Int))) (IntKind.wrap .i64 (x1 + (1 : Int))) z2 (List.set l3 (Int.toNat x1) (D.toStr (nth r0 0)))))
 (none))
 (some [(.int .i64 (x0)), (.arr true (z2) (.strs (l3)))]) := by kernel_rfl
def qjy (x0 x1 : Int) (z2 : Bool) (l3 : List ByteArray) : St := ⟨fill 22 [(0, (.sl 0 none)), (1, (.int .i64 (x0))), (5, (.int .i64 (x1)))], [], [(.arr false (z2) (.strs (l3)))]⟩
theorem qe7 (k : Nat) (az : Bool) (a : List ByteArray) (b : Int) : go (k + 1) laws_heldStringS [(.arr false (az) (.strs (a))), (.int .i64 (b))] =
 lp k laws_heldStringS [] [] 2 k (qjy b (0 : Int) az a) := by kernel_rfl
theorem qhl (k n : Nat) (fu : List (Nat × Nat)) (x0 x1 : Int) (z2 : Bool) (l3 : List ByteArray) : lp k laws_heldStringS [] fu 2 (n + 1) (qjy x0 x1 z2 l3) =
 cond (decide (x1 < nI (List.length l3)))
 (cond (decide ((0 : Int) ≤ x1) && decide (x1 < nI (List.length l3)))
 ((go k laws_markText [(.int .i64 (x0))]).bind fun r0 =>
 cond (!decide (List.getD l3 (Int.toNat x1) ByteArray.empty = D.toStr (nth r0 0)))
 (some [(.int .i64 ((-1 : Int)))])
 (lp k laws_heldStringS [] fu 2 n (qjy (IntKind.wrap .i64 (x0 + (1 : Int))) (IntKind.wrap .i64 (x1 + (1 : Int))) z2 l3)))
 (none))
 (some [(.int .i64 (x0))]) := by kernel_rfl
def qj2 (x0 : Int) (x1 : ByteArray) : St := ⟨fill 20 [(0, (.int .i64 (x0))), (3, (.str (x1)))], [], []⟩
theorem qfd (k : Nat) (a : Int) : go (k + 1) laws_markText [(.int .i64 (a))] =
 cond (decide (a ≤ (0 : Int)))
 (some [(.str ({ data := #[(109 : UInt8), (48 : UInt8)] }))])
 (lp k laws_markText [] [] 4 k (qj2 a ({ data := #[] }))) := by kernel_rfl
theorem qhp (k n : Nat) (fu : List (Nat × Nat)) (x0 : Int) (x1 : ByteArray) : lp k laws_markText [] fu 4 (n + 1) (qj2 x0 x1) =
 cond (decide ((0 : Int) < x0))
 (cond (decide (ByteArray.size (strL [IntKind.wrap IntKind.u8 (IntKind.wrap .i64 ((48 : Int) + Int.tmod x0 (10 : Int)))]) + ByteArray.size x1 ≤ (4611686018427387904 : Nat)))
 (lp k laws_markText [] fu 4 n (qj2 (IntKind.wrap .i64 (Int.tdiv x0 (10 : Int))) (strL [IntKind.wrap IntKind.u8 (IntKind.wrap .i64 ((48 : Int) + Int.tmod x0 (10 : Int)))] ++ x1)))
 (none))
 (cond (decide (ByteArray.size { data := #[(109 : UInt8)] } + ByteArray.size x1 ≤ (4611686018427387904 : Nat)))
 (some [(.str ({ data := #[(109 : UInt8)] } ++ x1))])
 (none)) := by kernel_rfl
theorem qew (k : Nat) (a0 : Int) (a1z : Bool) (a1 : List (Int × Int × Int)) (a2z : Bool) (a2 : List Int) (a3z : Bool) (a3 : List Int) (a4z : Bool) (a4 : List Int) (a5 a6 a7 a8 a9 a10 a11 a12 a13 a14 a15 a16 a17 a18 a19 a20 : Int) : go (k + 1) laws_FnExactFormatWorld [(.agg [(.int .i64 (a0)), (.arr false (a1z) (.r3 (a1))), (.arr false (a2z) (.ints .i64 (a2))), (.arr false (a3z) (.ints .i64 (a3))), (.arr false (a4z) (.ints .i64 (a4))), (.int .i64 (a5)), (.int .i64 (a6)), (.int .i64 (a7)), (.int .i64 (a8)), (.int .i64 (a9)), (.int .i64 (a10)), (.int .i64 (a11)), (.int .i64 (a12)), (.int .i64 (a13)), (.int .i64 (a14)), (.int .i64 (a15)), (.int .i64 (a16)), (.int .i64 (a17)), (.int .i64 (a18)), (.int .i64 (a19)), (.int .i64 (a20))])] =
 (go k laws_szWorld [(.agg [(.int .i64 (a0)), (.arr false (a1z) (.r3 (a1))), (.arr false (a2z) (.ints .i64 (a2))), (.arr false (a3z) (.ints .i64 (a3))), (.arr false (a4z) (.ints .i64 (a4))), (.int .i64 (a5)), (.int .i64 (a6)), (.int .i64 (a7)), (.int .i64 (a8)), (.int .i64 (a9)), (.int .i64 (a10)), (.int .i64 (a11)), (.int .i64 (a12)), (.int .i64 (a13)), (.int .i64 (a14)), (.int .i64 (a15)), (.int .i64 (a16)), (.int .i64 (a17)), (.int .i64 (a18)), (.int .i64 (a19)), (.int .i64 (a20))]), (.int .i64 ((1048576 : Int)))]).bind fun r0 =>
 cond (decide (D.toInt (nth r0 0) < (0 : Int)))
 (some [(.bool (true))])
 ((go k laws_toWorld [(.agg [(.int .i64 (a0)), (.arr false (a1z) (.r3 (a1))), (.arr false (a2z) (.ints .i64 (a2))), (.arr false (a3z) (.ints .i64 (a3))), (.arr false (a4z) (.ints .i64 (a4))), (.int .i64 (a5)), (.int .i64 (a6)), (.int .i64 (a7)), (.int .i64 (a8)), (.int .i64 (a9)), (.int .i64 (a10)), (.int .i64 (a11)), (.int .i64 (a12)), (.int .i64 (a13)), (.int .i64 (a14)), (.int .i64 (a15)), (.int .i64 (a16)), (.int .i64 (a17)), (.int .i64 (a18)), (.int .i64 (a19)), (.int .i64 (a20))])]).bind fun r1 =>
 (go k spec_FormatWorld [(.agg [(.int .i64 (D.toInt (D.cell 0 (nth r1 0)))), (.arr false (D.nil (D.cell 1 (nth r1 0))) (.r3 (D.r3 (D.cell 1 (nth r1 0))))), (.arr false (D.nil (D.cell 2 (nth r1 0))) (.ints .i64 (D.ints (D.cell 2 (nth r1 0))))), (.arr false (D.nil (D.cell 3 (nth r1 0))) (.ints .i64 (D.ints (D.cell 3 (nth r1 0))))), (.arr false (D.nil (D.cell 4 (nth r1 0))) (.ints .i64 (D.ints (D.cell 4 (nth r1 0))))), (.int .i64 (D.toInt (D.cell 5 (nth r1 0)))), (.int .i64 (D.toInt (D.cell 6 (nth r1 0)))), (.int .i64 (D.toInt (D.cell 7 (nth r1 0)))), (.int .i64 (D.toInt (D.cell 8 (nth r1 0)))), (.int .i64 (D.toInt (D.cell 9 (nth r1 0)))), (.int .i64 (D.toInt (D.cell 10 (nth r1 0)))), (.int .i64 (D.toInt (D.cell 11 (nth r1 0)))), (.int .i64 (D.toInt (D.cell (12 : Nat) (nth r1 0)))), (.int .i64 (D.toInt (D.cell (13 : Nat) (nth r1 0)))), (.int .i64 (D.toInt (D.cell (14 : Nat) (nth r1 0)))), (.int .i64 (D.toInt (D.cell (15 : Nat) (nth r1 0)))), (.int .i64 (D.toInt (D.cell (16 : Nat) (nth r1 0)))), (.int .i64 (D.toInt (D.cell (17 : Nat) (nth r1 0)))), (.int .i64 (D.toInt (D.cell (18 : Nat) (nth r1 0)))), (.int .i64 (D.toInt (D.cell (19 : Nat) (nth r1 0)))), (.int .i64 (D.toInt (D.cell (20 : Nat) (nth r1 0))))])]).bind fun r2 =>
 (go k laws_toWorld [(.agg [(.int .i64 (a0)), (.arr false (a1z) (.r3 (a1))), (.arr false (a2z) (.ints .i64 (a2))), (.arr false (a3z) (.ints .i64 (a3))), (.arr false (a4z) (.ints .i64 (a4))), (.int .i64 (a5)), (.int .i64 (a6)), (.int .i64 (a7)), (.int .i64 (a8)), (.int .i64 (a9)), (.int .i64 (a10)), (.int .i64 (a11)), (.int .i64 (a12)), (.int .i64 (a13)), (.int .i64 (a14)), (.int .i64 (a15)), (.int .i64 (a16)), (.int .i64 (a17)), (.int .i64 (a18)), (.int .i64 (a19)), (.int .i64 (a20))])]).bind fun r3 =>
 (go k impl_FormatWorld [(.agg [(.int .i64 (D.toInt (D.cell 0 (nth r3 0)))), (.arr false (D.nil (D.cell 1 (nth r3 0))) (.r3 (D.r3 (D.cell 1 (nth r3 0))))), (.arr false (D.nil (D.cell 2 (nth r3 0))) (.ints .i64 (D.ints (D.cell 2 (nth r3 0))))), (.arr false (D.nil (D.cell 3 (nth r3 0))) (.ints .i64 (D.ints (D.cell 3 (nth r3 0))))), (.arr false (D.nil (D.cell 4 (nth r3 0))) (.ints .i64 (D.ints (D.cell 4 (nth r3 0))))), (.int .i64 (D.toInt (D.cell 5 (nth r3 0)))), (.int .i64 (D.toInt (D.cell 6 (nth r3 0)))), (.int .i64 (D.toInt (D.cell 7 (nth r3 0)))), (.int .i64 (D.toInt (D.cell 8 (nth r3 0)))), (.int .i64 (D.toInt (D.cell 9 (nth r3 0)))), (.int .i64 (D.toInt (D.cell 10 (nth r3 0)))), (.int .i64 (D.toInt (D.cell 11 (nth r3 0)))), (.int .i64 (D.toInt (D.cell (12 : Nat) (nth r3 0)))), (.int .i64 (D.toInt (D.cell (13 : Nat) (nth r3 0)))), (.int .i64 (D.toInt (D.cell (14 : Nat) (nth r3 0)))), (.int .i64 (D.toInt (D.cell (15 : Nat) (nth r3 0)))), (.int .i64 (D.toInt (D.cell (16 : Nat) (nth r3 0)))), (.int .i64 (D.toInt (D.cell (17 : Nat) (nth r3 0)))), (.int .i64 (D.toInt (D.cell (18 : Nat) (nth r3 0)))), (.int .i64 (D.toInt (D.cell (19 : Nat) (nth r3 0)))), (.int .i64 (D.toInt (D.cell (20 : Nat) (nth r3 0))))])]).bind fun r4 =>
 (go k laws_eqStringS [(.arr false (D.nil (nth r4 0)) (.strs (D.strs (nth r4 0)))), (.arr false (D.nil (nth r2 0)) (.strs (D.strs (nth r2 0))))]).bind fun r5 =>
 cond (!bit (nth r5 0))
 (some [(.bool (false))])
 ((go k laws_toWorld [(.agg [(.int .i64 (a0)), (.arr false (a1z) (.r3 (a1))), (.arr false (a2z) (.ints .i64 (a2))), (.arr false (a3z) (.ints .i64 (a3))), (.arr false (a4z) (.ints .i64 (a4))), (.int .i64 (a5)), (.int .i64 (a6)), (.int .i64 (a7)), (.int .i64 (a8)), (.int .i64 (a9)), (.int .i64 (a10)), (.int .i64 (a11)), (.int .i64 (a12)), (.int .i64 (a13)), (.int .i64 (a14)), (.int .i64 (a15)), (.int .i64 (a16)), (.int .i64 (a17)), (.int .i64 (a18)), (.int .i64 (a19)), (.int .i64 (a20))])]).bind fun r6 =>
 (go k laws_eqWorld [(.agg [(.int .i64 (D.toInt (D.cell 0 (nth r3 0)))), (.arr false (D.nil (D.cell 1 (nth r3 0))) (.r3 (D.r3 (D.cell 1 (nth r3 0))))), (.arr false (D.nil (D.cell 2 (nth r3 0))) (.ints .i64 (D.ints (D.cell 2 (nth r3 0))))), (.arr false (D.nil (D.cell 3 (nth r3 0))) (.ints .i64 (D.ints (D.cell 3 (nth r3 0))))), (.arr false (D.nil (D.cell 4 (nth r3 0))) (.ints .i64 (D.ints (D.cell 4 (nth r3 0))))), (.int .i64 (D.toInt (D.cell 5 (nth r3 0)))), (.int .i64 (D.toInt (D.cell 6 (nth r3 0)))), (.int .i64 (D.toInt (D.cell 7 (nth r3 0)))), (.int .i64 (D.toInt (D.cell 8 (nth r3 0)))), (.int .i64 (D.toInt (D.cell 9 (nth r3 0)))), (.int .i64 (D.toInt (D.cell 10 (nth r3 0)))), (.int .i64 (D.toInt (D.cell 11 (nth r3 0)))), (.int .i64 (D.toInt (D.cell (12 : Nat) (nth r3 0)))), (.int .i64 (D.toInt (D.cell (13 : Nat) (nth r3 0)))), (.int .i64 (D.toInt (D.cell (14 : Nat) (nth r3 0)))), (.int .i64 (D.toInt (D.cell (15 : Nat) (nth r3 0)))), (.int .i64 (D.toInt (D.cell (16 : Nat) (nth r3 0)))), (.int .i64 (D.toInt (D.cell (17 : Nat) (nth r3 0)))), (.int .i64 (D.toInt (D.cell (18 : Nat) (nth r3 0)))), (.int .i64 (D.toInt (D.cell (19 : Nat) (nth r3 0)))), (.int .i64 (D.toInt (D.cell (20 : Nat) (nth r3 0))))]), (.agg [(.int .i64 (D.toInt (D.cell 0 (nth r6 0)))), (.arr false (D.nil (D.cell 1 (nth r6 0))) (.r3 (D.r3 (D.cell 1 (nth r6 0))))), (.arr false (D.nil (D.cell 2 (nth r6 0))) (.ints .i64 (D.ints (D.cell 2 (nth r6 0))))), (.arr false (D.nil (D.cell 3 (nth r6 0))) (.ints .i64 (D.ints (D.cell 3 (nth r6 0))))), (.arr false (D.nil (D.cell 4 (nth r6 0))) (.ints .i64 (D.ints (D.cell 4 (nth r6 0))))), (.int .i64 (D.toInt (D.cell 5 (nth r6 0)))), (.int .i64 (D.toInt (D.cell 6 (nth r6 0)))), (.int .i64 (D.toInt (D.cell 7 (nth r6 0)))), (.int .i64 (D.toInt (D.cell 8 (nth r6 0)))), (.int .i64 (D.toInt (D.cell 9 (nth r6 0)))), (.int .i64 (D.toInt (D.cell 10 (nth r6 0)))), (.int .i64 (D.toInt (D.cell 11 (nth r6 0)))), (.int .i64 (D.toInt (D.cell (12 : Nat) (nth r6 0)))), (.int .i64 (D.toInt (D.cell (13 : Nat) (nth r6 0)))), (.int .i64 (D.toInt (D.cell (14 : Nat) (nth r6 0)))), (.int .i64 (D.toInt (D.cell (15 : Nat) (nth r6 0)))), (.int .i64 (D.toInt (D.cell (16 : Nat) (nth r6 0)))), (.int .i64 (D.toInt (D.cell (17 : Nat) (nth r6 0)))), (.int .i64 (D.toInt (D.cell (18 : Nat) (nth r6 0)))), (.int .i64 (D.toInt (D.cell (19 : Nat) (nth r6 0)))), (.int .i64 (D.toInt (D.cell (20 : Nat) (nth r6 0))))])]).bind fun r7 =>
 cond (!bit (nth r7 0))
 (some [(.bool (false))])
 ((go k laws_markWorld [(.agg [(.int .i64 (D.toInt (D.cell 0 (nth r3 0)))), (.arr true (D.nil (D.cell 1 (nth r3 0))) (.r3 (D.r3 (D.cell 1 (nth r3 0))))), (.arr true (D.nil (D.cell 2 (nth r3 0))) (.ints .i64 (D.ints (D.cell 2 (nth r3 0))))), (.arr true (D.nil (D.cell 3 (nth r3 0))) (.ints .i64 (D.ints (D.cell 3 (nth r3 0))))), (.arr true (D.nil (D.cell 4 (nth r3 0))) (.ints .i64 (D.ints (D.cell 4 (nth r3 0))))), (.int .i64 (D.toInt (D.cell 5 (nth r3 0)))), (.int .i64 (D.toInt (D.cell 6 (nth r3 0)))), (.int .i64 (D.toInt (D.cell 7 (nth r3 0)))), (.int .i64 (D.toInt (D.cell 8 (nth r3 0)))), (.int .i64 (D.toInt (D.cell 9 (nth r3 0)))), (.int .i64 (D.toInt (D.cell 10 (nth r3 0)))), (.int .i64 (D.toInt (D.cell 11 (nth r3 0)))), (.int .i64 (D.toInt (D.cell (12 : Nat) (nth r3 0)))), (.int .i64 (D.toInt (D.cell (13 : Nat) (nth r3 0)))), (.int .i64 (D.toInt (D.cell (14 : Nat) (nth r3 0)))), (.int .i64 (D.toInt (D.cell (15 : Nat) (nth r3 0)))), (.int .i64 (D.toInt (D.cell (16 : Nat) (nth r3 0)))), (.int .i64 (D.toInt (D.cell (17 : Nat) (nth r3 0)))), (.int .i64 (D.toInt (D.cell (18 : Nat) (nth r3 0)))), (.int .i64 (D.toInt (D.cell (19 : Nat) (nth r3 0)))), (.int .i64 (D.toInt (D.cell (20 : Nat) (nth r3 0))))]), (.int .i64 ((1 : Int)))]).bind fun r8 =>
 cond (decide (D.toInt (nth r8 0) < (0 : Int)))
 (some [(.bool (false))])
 ((go k laws_eqStringS [(.arr false (D.nil (nth r4 0)) (.strs (D.strs (nth r4 0)))), (.arr false (D.nil (nth r2 0)) (.strs (D.strs (nth r2 0))))]).bind fun r9 =>
 cond (!bit (nth r9 0))
 (some [(.bool (false))])
 ((go k laws_markStringS [(.arr true (D.nil (nth r4 0)) (.strs (D.strs (nth r4 0)))), (.int .i64 ((1 : Int)))]).bind fun r10 =>
 (go k laws_heldStringS [(.arr false (D.nil (nth r4 0)) (.strs (D.strs (nth r10 1)))), (.int .i64 ((1 : Int)))]).bind fun r11 =>
 cond (decide (D.toInt (nth r11 0) < (0 : Int)))
 (some [(.bool (false))])
 (cond (!decide (D.toInt (nth r11 0) = D.toInt (nth r10 0)))
 (some [(.bool (false))])
 ((go k laws_toWorld [(.agg [(.int .i64 (a0)), (.arr false (a1z) (.r3 (a1))), (.arr false (a2z) (.ints .i64 (a2))), (.arr false (a3z) (.ints .i64 (a3))), (.arr false (a4z) (.ints .i64 (a4))), (.int .i64 (a5)), (.int .i64 (a6)), (.int .i64 (a7)), (.int .i64 (a8)), (.int .i64 (a9)), (.int .i64 (a10)), (.int .i64 (a11)), (.int .i64 (a12)), (.int .i64 (a13)), (.int .i64 (a14)), (.int .i64 (a15)), (.int .i64 (a16)), (.int .i64 (a17)), (.int .i64 (a18)), (.int .i64 (a19)), (.int .i64 (a20))])]).bind fun r12 =>
 (go k impl_FormatWorld [(.agg [(.int .i64 (D.toInt (D.cell 0 (nth r12 0)))), (.arr false (D.nil (D.cell 1 (nth r12 0))) (.r3 (D.r3 (D.cell 1 (nth r12 0))))), (.arr false (D.nil (D.cell 2 (nth r12 0))) (.ints .i64 (D.ints (D.cell 2 (nth r12 0))))), (.arr false (D.nil (D.cell 3 (nth r12 0))) (.ints .i64 (D.ints (D.cell 3 (nth r12 0))))), (.arr false (D.nil (D.cell 4 (nth r12 0))) (.ints .i64 (D.ints (D.cell 4 (nth r12 0))))), (.int .i64 (D.toInt (D.cell 5 (nth r12 0)))), (.int .i64 (D.toInt (D.cell 6 (nth r12 0)))), (.int .i64 (D.toInt (D.cell 7 (nth r12 0)))), (.int .i64 (D.toInt (D.cell 8 (nth r12 0)))), (.int .i64 (D.toInt (D.cell 9 (nth r12 0)))), (.int .i64 (D.toInt (D.cell 10 (nth r12 0)))), (.int .i64 (D.toInt (D.cell 11 (nth r12 0)))), (.int .i64 (D.toInt (D.cell (12 : Nat) (nth r12 0)))), (.int .i64 (D.toInt (D.cell (13 : Nat) (nth r12 0)))), (.int .i64 (D.toInt (D.cell (14 : Nat) (nth r12 0)))), (.int .i64 (D.toInt (D.cell (15 : Nat) (nth r12 0)))), (.int .i64 (D.toInt (D.cell (16 : Nat) (nth r12 0)))), (.int .i64 (D.toInt (D.cell (17 : Nat) (nth r12 0)))), (.int .i64 (D.toInt (D.cell (18 : Nat) (nth r12 0)))), (.int .i64 (D.toInt (D.cell (19 : Nat) (nth r12 0)))), (.int .i64 (D.toInt (D.cell (20 : Nat) (nth r12 0))))])]).bind fun r13 =>
 (go k laws_eqStringS [(.arr false (D.nil (nth r13 0)) (.strs (D.strs (nth r13 0)))), (.arr false (D.nil (nth r2 0)) (.strs (D.strs (nth r2 0))))]).bind fun r14 =>
 cond (!bit (nth r14 0))
 (some [(.bool (false))])
 ((go k laws_heldStringS [(.arr false (D.nil (nth r4 0)) (.strs (D.strs (nth r10 1)))), (.int .i64 ((1 : Int)))]).bind fun r15 =>
 cond (decide (D.toInt (nth r15 0) < (0 : Int)))
 (some [(.bool (false))])
 (cond (!decide (D.toInt (nth r15 0) = D.toInt (nth r10 0)))
 (some [(.bool (false))])
 (some [(.bool (true))])))))))))) := by kernel_rfl

end Go.Proofs.YtjfjniebmdafeaaDoor
end
section
namespace Go.Proofs.YtjfjniebmdafeaaDoor
open Go.Ev
set_option maxRecDepth 20000
def qj8 (x0 : Int) (x1 : Bool) (x2 : ByteArray) : St := ⟨fill 30 [(0, (.int .i64 (x0))), (3, (.bool (x1))), (4, (.str (x2)))], [], []⟩
theorem qfx (k : Nat) (a : Int) : go (k + 1) spec_FormatInt [(.int .i64 (a))] =
 cond (decide (a = (0 : Int)))
 (some [(.str ({ data := #[(48 : UInt8)] }))])
 (lp k spec_FormatInt [] [] 5 k (qj8 a (decide (a < (0 : Int))) ({ data := #[] }))) := by kernel_rfl
theorem qhv (k n : Nat) (fu : List (Nat × Nat)) (x0 : Int) (x1 : Bool) (x2 : ByteArray) : lp k spec_FormatInt [] fu 5 (n + 1) (qj8 x0 x1 x2) =
 cond (!decide (x0 = (0 : Int)))
 (cond (decide (Int.tmod x0 (10 : Int) < (0 : Int)))
 ((go k spec_l01Figure [(.int .i64 (IntKind.wrap .i64 ((0 : Int) - Int.tmod x0 (10 : Int))))]).bind fun r0 =>
 cond (decide (ByteArray.size (strL [D.toInt (nth r0 0)]) + ByteArray.size x2 ≤ (4611686018427387904 : Nat)))
 (lp k spec_FormatInt [] fu 5 n (qj8 (IntKind.wrap .i64 (Int.tdiv x0 (10 : Int))) x1 (strL [D.toInt (nth r0 0)] ++ x2)))
 (none))
 ((go k spec_l01Figure [(.int .i64 (Int.tmod x0 (10 : Int)))]).bind fun r1 =>
 cond (decide (ByteArray.size (strL [D.toInt (nth r1 0)]) + ByteArray.size x2 ≤ (4611686018427387904 : Nat)))
 (lp k spec_FormatInt [] fu 5 n (qj8 (IntKind.wrap .i64 (Int.tdiv x0 (10 : Int))) x1 (strL [D.toInt (nth r1 0)] ++ x2)))
 (none)))
 (cond (x1)
 (cond (decide (ByteArray.size { data := #[(45 : UInt8)] } + ByteArray.size x2 ≤ (4611686018427387904 : Nat)))
 (some [(.str ({ data := #[(45 : UInt8)] } ++ x2))])
 (none))
 (some [(.str (x2))])) := by kernel_rfl
theorem qf8 (k : Nat) (a : Int) : go (k + 1) spec_l01Figure [(.int .i64 (a))] =
 cond (decide (a < (10 : Int)))
 (some [(.int IntKind.u8 (IntKind.wrap IntKind.u8 (IntKind.wrap .i64 ((48 : Int) + a))))])
 (some [(.int IntKind.u8 (IntKind.wrap IntKind.u8 (IntKind.wrap .i64 (IntKind.wrap .i64 ((97 : Int) + a) - (10 : Int)))))]) := by kernel_rfl
theorem qfo (k : Nat) (a0 a1 a2 a3 : Int) : go (k + 1) laws_toLedger [(.agg [(.int .i64 (a0)), (.int .i64 (a1)), (.int .i64 (a2)), (.int .i64 (a3))])] =
 some [(.agg [(.int .i64 (a0)), (.int .i64 (a1)), (.int .i64 (a2)), (.int .i64 (a3))])] := by kernel_rfl
end Go.Proofs.YtjfjniebmdafeaaDoor
end
section
namespace Go.Proofs
open Go.Shelf
def Tryd.lays166_ren : Go.Shelf.Ren := ⟨fun | 166 => 74 | 240 => 108 | 276 => 133 | n => n, fun | 0 => 0 | 3 => 3 | 4 => 4 | 5 => 5 | 9 => 9 | 20 => 20 | 37 => 77 | 70 => 116 | 72 => 118 | 75 => 120 | 80 => 123 | 164 => 167 | n => n, fun | n => n⟩
theorem Tryd.lays166 : Go.Proofs.Lays.n166 Tryd.prog Tryd.lays166_ren := {
  mixed := by kernel_rfl
  f166 := Tryd.func74.trans (congrArg some (by kernel_rfl))
  f240 := Tryd.func108.trans (congrArg some (by kernel_rfl))
  f276 := Tryd.func133.trans (congrArg some (by kernel_rfl))
  t0 := Tryd.underlying0
  a0 := Tryd.isAgg0
  z0 := Tryd.sizeOf0
  v0 := Tryd.zeroValue0
  t3 := Tryd.underlying3
  a3 := Tryd.isAgg3
  z3 := Tryd.sizeOf3
  v3 := Tryd.zeroValue3
  t4 := Tryd.underlying4
  a4 := Tryd.isAgg4
  z4 := Tryd.sizeOf4
  v4 := Tryd.zeroValue4
  t9 := Tryd.underlying9
  a9 := Tryd.isAgg9
  z9 := Tryd.sizeOf9
  v9 := Tryd.zeroValue9
  t20 := Tryd.underlying20
  a20 := Tryd.isAgg20
  z20 := Tryd.sizeOf20
  v20 := Tryd.zeroValue20
  t37 := Tryd.underlying77
  a37 := Tryd.isAgg77
  z37 := Tryd.sizeOf77
  v37 := Tryd.zeroValue77
  t70 := Tryd.underlying116
  a70 := Tryd.isAgg116
  z70 := Tryd.sizeOf116
  v70 := Tryd.zeroValue116
  t72 := Tryd.underlying118
  a72 := Tryd.isAgg118
  z72 := Tryd.sizeOf118
  v72 := Tryd.zeroValue118
  t75 := Tryd.underlying120
  a75 := Tryd.isAgg120
  z75 := Tryd.sizeOf120
  v75 := Tryd.zeroValue120
  t164 := Tryd.underlying167
  a164 := Tryd.isAgg167
  z164 := Tryd.sizeOf167
  v164 := Tryd.zeroValue167 }
theorem Tryd.Builder_Extra_166 : Builder.Extra Tryd.prog Tryd.lays166_ren := {
  sizeBuilder := by kernel_rfl
  liesBuilder := by kernel_rfl
  t5 := Tryd.underlying5
  a5 := Tryd.isAgg5
  z5 := Tryd.sizeOf5
  v5 := Tryd.zeroValue5
  infoByte := by kernel_rfl
  cellsByte := by kernel_rfl
  sizeByte := by kernel_rfl
  neB5 := by decide }
open Go.RowKit in
theorem Tryd.Builder_WriteString (B b : Nat) (bs : List Value) (s : ByteArray) (w : World) (h : Lib.IsBuilder 118 5 B b bs w) (hlen : bs.length + s.size ≤ 140737488355328) (hBw : B ≤ w.heap.size) :
    Calls Tryd.prog 74 #[.pointer (some ⟨b, 0, none⟩), .string s] w fun e w' => e = .returned (.tuple #[.int .i64 s.size, .nilIface]) ∧ (Lib.BuilderAt 118 5 B b (.pointer (some ⟨b, 0, none⟩)) (bs ++ Lib.strCells s) w' ∧ Below B w w') := Any.Builder_WriteString Tryd.lays166 Tryd.Builder_Extra_166 B b bs s w h hlen hBw
def Tryd.lays169_ren : Go.Shelf.Ren := ⟨fun | 169 => 75 | n => n, fun | 70 => 116 | 9 => 9 | 0 => 0 | 72 => 118 | 37 => 77 | 127 => 152 | 3 => 3 | 5 => 5 | n => n, fun | n => n⟩
theorem Tryd.lays169 : Go.Proofs.Lays.n169 Tryd.prog Tryd.lays169_ren := {
  mixed := by kernel_rfl
  f169 := Tryd.func75.trans (congrArg some (by kernel_rfl))
  t0 := Tryd.underlying0
  a0 := Tryd.isAgg0
  z0 := Tryd.sizeOf0
  v0 := Tryd.zeroValue0
  t3 := Tryd.underlying3
  a3 := Tryd.isAgg3
  z3 := Tryd.sizeOf3
  v3 := Tryd.zeroValue3
  t9 := Tryd.underlying9
  a9 := Tryd.isAgg9
  z9 := Tryd.sizeOf9
  v9 := Tryd.zeroValue9
  t37 := Tryd.underlying77
  a37 := Tryd.isAgg77
  z37 := Tryd.sizeOf77
  v37 := Tryd.zeroValue77
  t70 := Tryd.underlying116
  a70 := Tryd.isAgg116
  z70 := Tryd.sizeOf116
  v70 := Tryd.zeroValue116
  t72 := Tryd.underlying118
  a72 := Tryd.isAgg118
  z72 := Tryd.sizeOf118
  v72 := Tryd.zeroValue118
  t127 := Tryd.underlying152
  a127 := Tryd.isAgg152
  z127 := Tryd.sizeOf152
  v127 := Tryd.zeroValue152 }
theorem Tryd.Builder_Extra_169 : Builder.Extra Tryd.prog Tryd.lays169_ren := {
  sizeBuilder := by kernel_rfl
  liesBuilder := by kernel_rfl
  t5 := Tryd.underlying5
  a5 := Tryd.isAgg5
  z5 := Tryd.sizeOf5
  v5 := Tryd.zeroValue5
  infoByte := by kernel_rfl
  cellsByte := by kernel_rfl
  sizeByte := by kernel_rfl
  neB5 := by decide }
open Go.RowKit in
theorem Tryd.Builder_String_any (B b : Nat) (l : List UInt8) (w : World) (h : Lib.IsBuilder 118 5 B b (Lib.byteCells l) w) (hBw : B ≤ w.heap.size) :
    Calls Tryd.prog 75 #[.pointer (some ⟨b, 0, none⟩)] w fun e w' => e = .returned (.string ⟨l.toArray⟩) ∧ Below B w w' := Any.Builder_String_any Tryd.lays169 Tryd.Builder_Extra_169 B b l w h hBw
def Tryd.laysM171_ren : Go.Shelf.Ren := ⟨fun | 171 => 76 | 243 => 109 | 246 => 134 | 283 => 155 | 284 => 156 | 285 => 157 | 286 => 158 | 129 => 168 | 317 => 167 | 318 => 169 | 319 => 170 | 320 => 171 | 337 => 174 | 338 => 175 | n => n, fun | 3 => 3 | 9 => 9 | 2 => 2 | 4 => 4 | 171 => 194 | 0 => 0 | 53 => 195 | 37 => 77 | 5 => 5 | 173 => 198 | 212 => 221 | 51 => 181 | 20 => 20 | 213 => 222 | 46 => 171 | 232 => 231 | 233 => 232 | n => n, fun | 17 => 5 | 18 => 6 | 19 => 7 | n => n⟩
theorem Tryd.laysM171 : Go.Proofs.LaysM.n171 Tryd.prog Tryd.laysM171_ren := {
  mixed := by kernel_rfl
  f129 := Tryd.func168.trans (congrArg some (by kernel_rfl))
  f171 := Tryd.func76.trans (congrArg some (by kernel_rfl))
  f243 := Tryd.func109.trans (congrArg some (by kernel_rfl))
  f246 := Tryd.func134.trans (congrArg some (by kernel_rfl))
  f283 := Tryd.func155.trans (congrArg some (by kernel_rfl))
  f284 := Tryd.func156.trans (congrArg some (by kernel_rfl))
  f285 := Tryd.func157.trans (congrArg some (by kernel_rfl))
  f286 := Tryd.func158.trans (congrArg some (by kernel_rfl))
  f317 := Tryd.func167.trans (congrArg some (by kernel_rfl))
  f318 := Tryd.func169.trans (congrArg some (by kernel_rfl))
  f319 := Tryd.func170.trans (congrArg some (by kernel_rfl))
  f320 := Tryd.func171.trans (congrArg some (by kernel_rfl))
  f337 := Tryd.func174.trans (congrArg some (by kernel_rfl))
  f338 := Tryd.func175.trans (congrArg some (by kernel_rfl))
  t0 := Tryd.underlying0
  a0 := Tryd.isAgg0
  z0 := Tryd.sizeOf0
  v0 := Tryd.zeroValue0
  t2 := Tryd.underlying2
  a2 := Tryd.isAgg2
  z2 := Tryd.sizeOf2
  v2 := Tryd.zeroValue2
  t3 := Tryd.underlying3
  a3 := Tryd.isAgg3
  z3 := Tryd.sizeOf3
  v3 := Tryd.zeroValue3
  t4 := Tryd.underlying4
  a4 := Tryd.isAgg4
  z4 := Tryd.sizeOf4
  v4 := Tryd.zeroValue4
  t5 := Tryd.underlying5
  a5 := Tryd.isAgg5
  z5 := Tryd.sizeOf5
  v5 := Tryd.zeroValue5
  t9 := Tryd.underlying9
  a9 := Tryd.isAgg9
  z9 := Tryd.sizeOf9
  v9 := Tryd.zeroValue9
  t20 := Tryd.underlying20
  a20 := Tryd.isAgg20
  z20 := Tryd.sizeOf20
  v20 := Tryd.zeroValue20
  t37 := Tryd.underlying77
  a37 := Tryd.isAgg77
  z37 := Tryd.sizeOf77
  v37 := Tryd.zeroValue77
  t46 := Tryd.underlying171
  a46 := Tryd.isAgg171
  z46 := Tryd.sizeOf171
  v46 := Tryd.zeroValue171
  t51 := Tryd.underlying181
  a51 := Tryd.isAgg181
  z51 := Tryd.sizeOf181
  v51 := Tryd.zeroValue181
  t53 := Tryd.underlying195
  a53 := Tryd.isAgg195
  z53 := Tryd.sizeOf195
  v53 := Tryd.zeroValue195
  t171 := Tryd.underlying194
  a171 := Tryd.isAgg194
  z171 := Tryd.sizeOf194
  v171 := Tryd.zeroValue194
  t173 := Tryd.underlying198
  a173 := Tryd.isAgg198
  z173 := Tryd.sizeOf198
  v173 := Tryd.zeroValue198
  t212 := Tryd.underlying221
  a212 := Tryd.isAgg221
  z212 := Tryd.sizeOf221
  v212 := Tryd.zeroValue221
  t213 := Tryd.underlying222
  a213 := Tryd.isAgg222
  z213 := Tryd.sizeOf222
  t232 := Tryd.underlying231
  a232 := Tryd.isAgg231
  z232 := Tryd.sizeOf231
  v232 := Tryd.zeroValue231
  t233 := Tryd.underlying232
  a233 := Tryd.isAgg232
  z233 := Tryd.sizeOf232
  v233 := Tryd.zeroValue232
  g17 := by kernel_rfl
  g18 := by kernel_rfl
  g19 := by kernel_rfl
  i0 := by kernel_rfl
  i2 := by kernel_rfl
  i3 := by kernel_rfl
  i4 := by kernel_rfl
  i5 := by kernel_rfl
  i9 := by kernel_rfl
  i20 := by kernel_rfl
  i37 := by kernel_rfl
  i46 := by kernel_rfl
  i51 := by kernel_rfl
  i53 := by kernel_rfl
  i171 := by kernel_rfl
  i173 := by kernel_rfl
  i212 := by kernel_rfl
  i232 := by kernel_rfl
  i233 := by kernel_rfl
  m17 := by kernel_rfl
  m18 := by kernel_rfl
  m19 := by kernel_rfl }
end Go.Proofs
end
section
namespace Go.Proofs.YtjfjniebmdafeaaDoor
open Go.RowKit Go.Lib Go.Ev Go.Shelf Go.Sort
theorem qkv {w : World} (h : Kept w) {nm : String} (hn : Tryd.prog.globalNamed nm = some 5) : Lib.TabIs Tryd.prog w nm .u64 Lib.pow10Tab := by
  obtain ⟨c, t, z, e, hc⟩ := h _ (List.mem_singleton.2 rfl)
  obtain rfl : c = _ := hc
  unfold Lib.TabIs World.var?
  rw [hn]
  simp only [Option.bind_some]
  rw [e]
theorem kept_of_tab {w : World} {nm : String} (hn : Tryd.prog.globalNamed nm = some 5) (h : Lib.TabIs Tryd.prog w nm .u64 Lib.pow10Tab) : Kept w := by
  intro x hx
  obtain rfl := List.mem_singleton.1 hx
  unfold Lib.TabIs World.var? at h
  rw [hn] at h
  simp only [Option.bind_some] at h
  show ∃ c t z, w.heap[5]? = some (.cells c t z) ∧ c = (Lib.pow10Tab.map fun z => Value.int .u64 z).toArray
  split at h
  · rename_i cs t z e
    exact ⟨_, t, z, e, Option.some.inj h⟩
  · cases h
theorem qha {w w' : World} (h : Kept w) (b : Below w.heap.size w w') : Kept w' :=
  h.frame (M := fun _ _ => False) (fr_of_below b) (fun _ _ _ h => h)
theorem qg3 (n : Int) (hn : inI64 n = true) (w : World) (hk : Kept w) : Calls Tryd.prog 76 #[.int .i64 n] w fun e w' => e = .returned (.string ⟨(Lib.itoa n).toArray⟩) ∧ Below w.heap.size w w' := by
  unfold inI64 at hn
  simp only [Bool.and_eq_true, decide_eq_true_eq] at hn
  refine (Any.strconv_Itoa Tryd.laysM171 n hn.1 hn.2 w (qkv hk (by kernel_rfl))).mono ?_
  rintro e w' ⟨rfl, k, os, rfl⟩
  exact ⟨rfl, (below_drewN w w.heap.size k).trans (below_grow (w.drewN k) os)⟩
theorem qgm (n : Int) (hn : inI64 n = true) (w : World) (hk : Kept w) : Calls Tryd.prog 37 #[.int .i64 n] w fun e w' => e = .returned (.string ⟨(Lib.itoa n).toArray⟩) ∧ Below w.heap.size w w' := by
  have c := qg3 n hn w hk
  generalize (⟨(Lib.itoa n).toArray⟩ : ByteArray) = s at c ⊢
  go_enter Tryd.func37, Tryd.ntmps37
  go_wp2_with (go_at_call 76; refine c.mono ?_; rintro e w' ⟨rfl, hb⟩)
  go_ret
  exact ⟨rfl, hb⟩
theorem qjg {B : Nat} {e : TypeId} {k : Nat} {v : Value} {n : Nat} {xs : List Value} {w w' : World} (h : w.ownsRow B e k v n xs) (hb : RowKit.Below w.heap.size w w') : w'.ownsRow B e k v n xs := by
  obtain ⟨h1, h2⟩ := h
  refine ⟨h1, h2.imp (fun h => h) ?_⟩
  rintro ⟨g, cap, cur, h3, h4, h5, h6⟩
  exact ⟨g, cap, cur, h3, h4, (hb.block g ((Array.getElem?_eq_some_iff.1 h5).1)).trans h5, h6⟩
theorem qam {T e : TypeId} {B b : Nat} {p : Value} {bs : List Value} {w w' : World} (h : BuilderAt T e B b p bs w) (hb : RowKit.Below w.heap.size w w') : BuilderAt T e B b p bs w' := by
  have lt := h.lt
  obtain ⟨hB, v, h1, h2, h3⟩ := h
  exact ⟨hB, v, (hb.block b lt).trans h1, qjg h2 hb, h3⟩
theorem qi9 : ∀ (k u : Nat), u < 10 ^ (k + 1) → Lib.nDigits u ≤ k + 1
  | 0, u, h => by rw [Lib.nDigits, dif_pos (by simpa using h)]; exact Nat.le_refl 1
  | k + 1, u, h => by
    rw [Lib.nDigits]
    split
    · omega
    · have := qi9 k (u / 10) (by rw [Nat.pow_succ] at h; omega)
      omega
theorem qg5 (x : Int) (h : inI64 x = true) : (Lib.itoa x).length ≤ 20 := by
  unfold inI64 at h
  simp only [Bool.and_eq_true, decide_eq_true_eq] at h
  unfold Lib.itoa
  split
  · rw [List.length_cons, Lib.decDigits_length]
    have := qi9 18 x.natAbs (by omega)
    omega
  · rw [Lib.decDigits_length]
    have := qi9 18 x.toNat (by omega)
    omega
theorem qgg (xs : List Int) (h : ∀ x ∈ xs, inI64 x = true) : (xs.flatMap fun n => 32 :: Lib.itoa n).length ≤ 21 * xs.length := by
  induction xs with
  | nil => simp
  | cons x l ih =>
    have a := qg5 x (h x List.mem_cons_self)
    have b := ih fun y hy => h y (List.mem_cons_of_mem _ hy)
    simp only [List.flatMap_cons, List.length_append, List.length_cons] at b ⊢
    omega
theorem qjn (word : ByteArray) (xs : List Int) (k : Nat) (hl : xs.length ≤ 1000) (h : ∀ x ∈ xs, inI64 x = true) : (byteCells (spacedL word.data.toList (xs.take k))).length ≤ word.size + 21000 := by
  have a := qgg (xs.take k) fun x hx => h x (List.mem_of_mem_take hx)
  have b : (xs.take k).length ≤ xs.length := by rw [List.length_take]; omega
  rw [byteCells_length, spacedL, List.length_append, Array.length_toList]
  have : word.data.size = word.size := rfl
  omega
theorem qjo (word : ByteArray) (xs : List Int) (k : Nat) (x : Int) (h : xs[k]? = some x) : byteCells (spacedL word.data.toList (xs.take (k + 1))) = byteCells (spacedL word.data.toList (xs.take k)) ++ byteCells (32 :: Lib.itoa x) := by
  obtain ⟨hk, hx⟩ := List.getElem?_eq_some_iff.1 h
  rw [List.take_succ_eq_append_getElem hk, hx, ← byteCells_append]
  simp [spacedL]
theorem qkl (word : ByteArray) (xs : List Int) (b : Addr) (c : Nat) (w : World) (hk : Kept w) (hw : word.size ≤ 1000) (hl : xs.length ≤ 1000) (hx : ∀ x ∈ xs, inI64 x = true) (hc : ∀ i x, xs[i]? = some x → w.cell? (b.add i) = some (.int .i64 x)) :
    Calls Tryd.prog 36 #[.string word, .slice (some b) xs.length c] w fun e w' => e = .returned (.string ⟨(spacedL word.data.toList xs).toArray⟩) ∧ Below w.heap.size w w' := by
  have h0 : Lib.IsBuilder 118 5 w.heap.size w.heap.size [] (w.alloc (.cells #[.pointer none, .slice none 0 0] 118)) := Lib.fresh_isBuilder 118 5 w
  have b0 : Below w.heap.size w (w.alloc (.cells #[.pointer none, .slice none 0 0] 118)) := (Below.refl _ w).alloc (Nat.le_refl _) _
  go_enter Tryd.func36, Tryd.ntmps36
  go_wp2_with (go_at_call 74; refine (Tryd.Builder_WriteString w.heap.size w.heap.size [] word _ h0 (by simp; omega) b0.size).mono ?_)
  rintro e W1 ⟨rfl, h1, b1⟩
  have h1' : BuilderAt 118 5 w.heap.size w.heap.size (.pointer (some ⟨w.heap.size, 0, none⟩)) (byteCells (spacedL word.data.toList (xs.take 0))) W1 := by
    rw [List.nil_append, strCells_eq] at h1
    simpa [spacedL] using h1
  have b1' := b0.trans b1
  clear h0 b0 h1 b1
  go_wp2
  go_loopw [13] (fun i wr => ∃ k : Nat, k ≤ xs.length ∧ i = .int .i64 k ∧ BuilderAt 118 5 w.heap.size w.heap.size (.pointer (some ⟨w.heap.size, 0, none⟩)) (byteCells (spacedL word.data.toList (xs.take k))) wr ∧ RowKit.Below w.heap.size w wr) (fun i _ => xs.length - (RowKit.intOf i).toNat)
  case atStart => exact ⟨0, Nat.zero_le _, rfl, h1', b1'⟩
  case round =>
    obtain ⟨k, hkl, rfl, hB, hnx⟩ := hrel
    clear h1' b1'
    have hR := qjn word xs k hl hx
    by_cases hlt : k < xs.length
    · obtain ⟨x, ex⟩ : ∃ x, xs[k]? = some x := ⟨_, List.getElem?_eq_getElem hlt⟩
      have e0 : wr.cell? (b.add k) = some (.int .i64 x) := (hnx.cell (World.block_lt_of_cell? _ _ (hc k x ex))).trans (hc k x ex)
      have cF := qgm x (hx x (List.mem_of_getElem? ex)) wr (qha hk hnx)
      have hS := qjo word xs k x ex
      have hsz := qg5 x (hx x (List.mem_of_getElem? ex))
      go_wp2_with (go_at_call 37; refine cF.mono ?_)
      rintro e W2 ⟨rfl, b2⟩
      have hB2 := qam hB b2
      have b2' := hnx.trans (b2.mono hnx.size)
      clear cF e0 hB hnx b2
      go_wp2_with (go_at_call 74; refine (Tryd.Builder_WriteString w.heap.size w.heap.size _ _ _ (Or.inr hB2) ?_ b2'.size).mono ?_)
      · rw [ByteArray.size_append]
        have s1 : ({ data := (Lib.itoa x).toArray } : ByteArray).size = (Lib.itoa x).length := List.size_toArray ..
        have s2 : ({ data := #[32] } : ByteArray).size = 1 := rfl
        omega
      rintro e W3 ⟨rfl, h3, b3⟩
      go_wp2
      go_roundw
      case rel => exact ⟨k + 1, by omega, by go_num, hS ▸ h3, b2'.trans b3⟩
      case measure => simp [RowKit.intOf]; omega
    · go_wp2_with (go_at_call 75; refine (Tryd.Builder_String_any w.heap.size w.heap.size (spacedL word.data.toList (xs.take k)) _ (Or.inr hB) hnx.size).mono ?_)
      rintro e W2 ⟨rfl, b2⟩
      go_wp2
      go_ret
      refine ⟨?_, hnx.trans b2⟩
      rw [List.take_of_length_le (by omega)]; rfl
theorem qkk (word : ByteArray) (c : Nat) (w : World) (hk : Kept w) (hw : word.size ≤ 1000) :
    Calls Tryd.prog 36 #[.string word, .slice none 0 c] w fun e w' => e = .returned (.string ⟨(spacedL word.data.toList []).toArray⟩) ∧ Below w.heap.size w w' := by
  have h0 : Lib.IsBuilder 118 5 w.heap.size w.heap.size [] (w.alloc (.cells #[.pointer none, .slice none 0 0] 118)) := Lib.fresh_isBuilder 118 5 w
  have b0 : Below w.heap.size w (w.alloc (.cells #[.pointer none, .slice none 0 0] 118)) := (Below.refl _ w).alloc (Nat.le_refl _) _
  go_enter Tryd.func36, Tryd.ntmps36
  go_wp2_with (go_at_call 74; refine (Tryd.Builder_WriteString w.heap.size w.heap.size [] word _ h0 (by simp; omega) b0.size).mono ?_)
  rintro e W1 ⟨rfl, h1, b1⟩
  have h1' : BuilderAt 118 5 w.heap.size w.heap.size (.pointer (some ⟨w.heap.size, 0, none⟩)) (byteCells (spacedL word.data.toList [])) W1 := by
    rw [List.nil_append, strCells_eq] at h1
    simpa [spacedL] using h1
  have b1' := b0.trans b1
  clear h0 b0 h1 b1
  go_wp2
  go_loopw [13] (fun i wr => ∃ k : Nat, k ≤ 0 ∧ i = .int .i64 k ∧ BuilderAt 118 5 w.heap.size w.heap.size (.pointer (some ⟨w.heap.size, 0, none⟩)) (byteCells (spacedL word.data.toList [])) wr ∧ RowKit.Below w.heap.size w wr) (fun i _ => 0 - (RowKit.intOf i).toNat)
  case atStart => exact ⟨0, Nat.zero_le _, rfl, h1', b1'⟩
  case round =>
    obtain ⟨k, hkl, rfl, hB, hnx⟩ := hrel
    clear h1' b1'
    obtain rfl : k = 0 := by omega
    go_wp2_with (go_at_call 75; refine (Tryd.Builder_String_any w.heap.size w.heap.size (spacedL word.data.toList []) _ (Or.inr hB) hnx.size).mono ?_)
    rintro e W2 ⟨rfl, b2⟩
    go_wp2
    go_ret
    refine ⟨?_, hnx.trans b2⟩
    rfl
end Go.Proofs.YtjfjniebmdafeaaDoor
end
section
namespace Go.Proofs.YtjfjniebmdafeaaDoor
open Go.Ev
def qkb (x0 : Int) (z1 : Bool) (l2 : List (Int × Int × Int)) (z3 : Bool) (l4 : List Int) (z5 : Bool) (l6 : List Int) (z7 : Bool) (l8 : List Int) (x9 : Int) : St := ⟨fill 84 [(1, (.ptr 4 (0) (0))), (3, (.int .i64 (x0)))], [], [(.arr false (z1) (.r3 (l2))), (.arr false (z3) (.ints .i64 (l4))), (.arr false (z5) (.ints .i64 (l6))), (.arr false (z7) (.ints .i64 (l8))), (.box true [(.int .i64 (x9)), (.sl 0 none), (.sl 1 none), (.sl 2 none), (.sl 3 none)])]⟩
def qkc (x0 : Int) (z1 : Bool) (l2 : List (Int × Int × Int)) (z3 : Bool) (l4 : List Int) (z5 : Bool) (l6 : List Int) (z7 : Bool) (l8 : List Int) (x9 : Int) : St := ⟨fill 84 [(1, (.ptr 4 (0) (0))), (4, (.int .i64 (x0)))], [], [(.arr false (z1) (.r3 (l2))), (.arr false (z3) (.ints .i64 (l4))), (.arr false (z5) (.ints .i64 (l6))), (.arr false (z7) (.ints .i64 (l8))), (.box true [(.int .i64 (x9)), (.sl 0 none), (.sl 1 none), (.sl 2 none), (.sl 3 none)])]⟩
theorem qf5 (k : Nat) (a0 : Int) (a1z : Bool) (a1 : List (Int × Int × Int)) (a2z : Bool) (a2 : List Int) (a3z : Bool) (a3 : List Int) (a4z : Bool) (a4 : List Int) : go (k + 1) spec_StateOk [(.agg [(.int .i64 (a0)), (.arr false (a1z) (.r3 (a1))), (.arr false (a2z) (.ints .i64 (a2))), (.arr false (a3z) (.ints .i64 (a3))), (.arr false (a4z) (.ints .i64 (a4)))])] =
 (go k spec_IsBalanced [(.agg [(.int .i64 (a0)), (.arr false (a1z) (.r3 (a1)))])]).bind fun r0 =>
 cond (!bit (nth r0 0))
 (some [(.bool (false))])
 (cond (!decide (nI (List.length a2) = nI (List.length a1)))
 (some [(.bool (false))])
 (cond (!decide (nI (List.length a3) = nI (List.length a2)))
 (some [(.bool (false))])
 (cond (!decide (nI (List.length a4) = a0))
 (some [(.bool (false))])
 (lp k spec_StateOk [] [] 4 k (qkb (0 : Int) a1z a1 a2z a2 a3z a3 a4z a4 a0))))) := by kernel_rfl
theorem qhy (k n : Nat) (fu : List (Nat × Nat)) (x0 : Int) (z1 : Bool) (l2 : List (Int × Int × Int)) (z3 : Bool) (l4 : List Int) (z5 : Bool) (l6 : List Int) (z7 : Bool) (l8 : List Int) (x9 : Int) : lp k spec_StateOk [] fu 4 (n + 1) (qkb x0 z1 l2 z3 l4 z5 l6 z7 l8 x9) =
 cond (decide (x0 < nI (List.length l4)))
 (cond (decide ((0 : Int) ≤ x0) && decide (x0 < nI (List.length l4)))
 ((go k spec_l01In [(.int .i64 (List.getD l4 (Int.toNat x0) (0 : Int))), (.int .i64 (0 : Int)), (.int .i64 ((10000000 : Int)))]).bind fun r0 =>
 cond (!bit (nth r0 0))
 (some [(.bool (false))])
 (cond (decide ((0 : Int) ≤ x0) && decide (x0 < nI (List.length l6)))
 (cond (decide ((0 : Int) ≤ x0) && decide (x0 < nI (List.length l4)))
 ((go k spec_l01In [(.int .i64 (List.getD l6 (Int.toNat x0) (0 : Int))), (.int .i64 (0 : Int)), (.int .i64 (IntKind.wrap .i64 ((1000 : Int) * List.getD l4 (Int.toNat x0) (0 : Int))))]).bind fun r1 =>
 cond (!bit (nth r1 0))
 (some [(.bool (false))])
 (lp k spec_StateOk [] fu 4 n (qkb (IntKind.wrap .i64 (x0 + (1 : Int))) z1 l2 z3 l4 z5 l6 z7 l8 x9)))
 (none))
 (none)))
 (none))
 (lp k spec_StateOk [] fu 9 k (qkc (0 : Int) z1 l2 z3 l4 z5 l6 z7 l8 x9)) := by kernel_rfl
theorem qhz (k n : Nat) (fu : List (Nat × Nat)) (x0 : Int) (z1 : Bool) (l2 : List (Int × Int × Int)) (z3 : Bool) (l4 : List Int) (z5 : Bool) (l6 : List Int) (z7 : Bool) (l8 : List Int) (x9 : Int) : lp k spec_StateOk [] fu 9 (n + 1) (qkc x0 z1 l2 z3 l4 z5 l6 z7 l8 x9) =
 cond (decide (x0 < nI (List.length l8)))
 (cond (decide ((0 : Int) ≤ x0) && decide (x0 < nI (List.length l8)))
 ((go k spec_l01In [(.int .i64 (List.getD l8 (Int.toNat x0) (0 : Int))), (.int .i64 (0 : Int)), (.int .i64 ((1000000 : Int)))]).bind fun r0 =>
 cond (!bit (nth r0 0))
 (some [(.bool (false))])
 (lp k spec_StateOk [] fu 9 n (qkc (IntKind.wrap .i64 (x0 + (1 : Int))) z1 l2 z3 l4 z5 l6 z7 l8 x9)))
 (none))
 ((go k spec_l07Sum [(.arr false (z3) (.ints .i64 (l4)))]).bind fun r1 =>
 some [(.bool (decide (D.toInt (nth r1 0) ≤ (10000000 : Int))))]) := by kernel_rfl
theorem qee (k : Nat) (a0 : Int) (a1z : Bool) (a1 : List (Int × Int × Int)) (a2z : Bool) (a2 : List Int) (a3z : Bool) (a3 : List Int) (a4z : Bool) (a4 : List Int) : go (k + 1) impl_StateOk [(.agg [(.int .i64 (a0)), (.arr false (a1z) (.r3 (a1))), (.arr false (a2z) (.ints .i64 (a2))), (.arr false (a3z) (.ints .i64 (a3))), (.arr false (a4z) (.ints .i64 (a4)))])] =
 (go k impl_IsBalanced [(.agg [(.int .i64 (a0)), (.arr false (a1z) (.r3 (a1)))])]).bind fun r0 =>
 cond (bit (nth r0 0))
 ((go k impl_State_hasCells [(.agg [(.int .i64 (a0)), (.arr false (a1z) (.r3 (a1))), (.arr false (a2z) (.ints .i64 (a2))), (.arr false (a3z) (.ints .i64 (a3))), (.arr false (a4z) (.ints .i64 (a4)))])]).bind fun r1 =>
 some [(.bool (bit (nth r1 0)))])
 (some [(.bool (false))]) := by kernel_rfl
def qjt (x0 x1 : Int) (z2 : Bool) (l3 : List (Int × Int × Int)) (z4 : Bool) (l5 : List Int) (z6 : Bool) (l7 : List Int) (z8 : Bool) (l9 : List Int) (x10 : Int) : St := ⟨fill 63 [(1, (.ptr 4 (0) (0))), (37, (.sl 1 none)), (38, (.int .i64 (x0))), (39, (.int .i64 (x1)))], [], [(.arr false (z2) (.r3 (l3))), (.arr false (z4) (.ints .i64 (l5))), (.arr false (z6) (.ints .i64 (l7))), (.arr false (z8) (.ints .i64 (l9))), (.box true [(.int .i64 (x10)), (.sl 0 none), (.sl 1 none), (.sl 2 none), (.sl 3 none)])]⟩
theorem qef (k : Nat) (a0 : Int) (a1z : Bool) (a1 : List (Int × Int × Int)) (a2z : Bool) (a2 : List Int) (a3z : Bool) (a3 : List Int) (a4z : Bool) (a4 : List Int) : go (k + 1) impl_State_hasCells [(.agg [(.int .i64 (a0)), (.arr false (a1z) (.r3 (a1))), (.arr false (a2z) (.ints .i64 (a2))), (.arr false (a3z) (.ints .i64 (a3))), (.arr false (a4z) (.ints .i64 (a4)))])] =
 cond (!decide (nI (List.length a2) = nI (List.length a1)))
 (some [(.bool (false))])
 (cond (!decide (nI (List.length a3) = nI (List.length a1)))
 (some [(.bool (false))])
 (cond (!decide (nI (List.length a4) = a0))
 (some [(.bool (false))])
 ((go k slices_ContainsFunc_int_int [(.arr false (a4z) (.ints .i64 (a4))), (.fn impl_State_hasCells_1 [])]).bind fun r0 =>
 cond (bit (nth r0 0))
 (some [(.bool (false))])
 (lp k impl_State_hasCells [] [] 5 k (qjt (nI (List.length a2)) (0 : Int) a1z a1 a2z a2 a3z a3 a4z a4 a0))))) := by kernel_rfl
theorem qhg (k n : Nat) (fu : List (Nat × Nat)) (x0 x1 : Int) (z2 : Bool) (l3 : List (Int × Int × Int)) (z4 : Bool) (l5 : List Int) (z6 : Bool) (l7 : List Int) (z8 : Bool) (l9 : List Int) (x10 : Int) : lp k impl_State_hasCells [] fu 5 (n + 1) (qjt x0 x1 z2 l3 z4 l5 z6 l7 z8 l9 x10) =
 cond (decide (x1 < x0))
 (cond (decide ((0 : Int) ≤ x1) && decide (x1 < nI (List.length l5)))
 ((go k impl_within [(.int .i64 (List.getD l5 (Int.toNat x1) (0 : Int))), (.int .i64 (0 : Int)), (.int .i64 ((10000000 : Int)))]).bind fun r0 =>
 cond (!bit (nth r0 0))
 (some [(.bool (false))])
 (cond (decide ((0 : Int) ≤ x1) && decide (x1 < nI (List.length l7)))
 ((go k impl_within [(.int .i64 (List.getD l7 (Int.toNat x1) (0 : Int))), (.int .i64 (0 : Int)), (.int .i64 (IntKind.wrap .i64 ((1000 : Int) * List.getD l5 (Int.toNat x1) (0 : Int))))]).bind fun r1 =>
 cond (!bit (nth r1 0))
 (some [(.bool (false))])
 (lp k impl_State_hasCells [] fu 5 n (qjt x0 (IntKind.wrap .i64 (x1 + (1 : Int))) z2 l3 z4 l5 z6 l7 z8 l9 x10)))
 (none)))
 (none))
 ((go k impl_sum [(.arr false (z4) (.ints .i64 (l5)))]).bind fun r2 =>
 some [(.bool (decide (D.toInt (nth r2 0) ≤ (10000000 : Int))))]) := by kernel_rfl
theorem qeg (k : Nat) (a : Int) : go (k + 1) impl_State_hasCells_1 [(.int .i64 (a))] =
 (go k impl_isBed [(.int .i64 (a))]).bind fun r0 =>
 some [(.bool (!bit (nth r0 0)))] := by kernel_rfl
theorem qen (k : Nat) (a : Int) : go (k + 1) impl_isBed [(.int .i64 (a))] =
 (go k impl_within [(.int .i64 (a)), (.int .i64 (0 : Int)), (.int .i64 ((1000000 : Int)))]).bind fun r0 =>
 some [(.bool (bit (nth r0 0)))] := by kernel_rfl
def qke (x0 x1 : Int) (z2 : Bool) (l3 : List Int) : St := ⟨fill 18 [(0, (.sl 0 none)), (3, (.int .i64 (x0))), (4, (.int .i64 (x1)))], [], [(.arr false (z2) (.ints .i64 (l3)))]⟩
theorem qgc (k : Nat) (az : Bool) (a : List Int) : go (k + 1) spec_l07Sum [(.arr false (az) (.ints .i64 (a)))] =
 lp k spec_l07Sum [] [] 3 k (qke (0 : Int) (0 : Int) az a) := by kernel_rfl
theorem qh1 (k n : Nat) (fu : List (Nat × Nat)) (x0 x1 : Int) (z2 : Bool) (l3 : List Int) : lp k spec_l07Sum [] fu 3 (n + 1) (qke x0 x1 z2 l3) =
 cond (decide (x1 < nI (List.length l3)))
 (cond (decide ((0 : Int) ≤ x1) && decide (x1 < nI (List.length l3)))
 (lp k spec_l07Sum [] fu 3 n (qke (IntKind.wrap .i64 (x0 + List.getD l3 (Int.toNat x1) (0 : Int))) (IntKind.wrap .i64 (x1 + (1 : Int))) z2 l3))
 (none))
 (some [(.int .i64 (x0))]) := by kernel_rfl
def qju (x0 x1 x2 : Int) (z3 : Bool) (l4 : List Int) : St := ⟨fill 17 [(3, (.int .i64 (x0))), (6, (.sl 0 none)), (7, (.int .i64 (x1))), (8, (.int .i64 (x2)))], [], [(.arr false (z3) (.ints .i64 (l4)))]⟩
theorem qet (k : Nat) (az : Bool) (a : List Int) : go (k + 1) impl_sum [(.arr false (az) (.ints .i64 (a)))] =
 lp k impl_sum [] [] 3 k (qju (0 : Int) (nI (List.length a)) (0 : Int) az a) := by kernel_rfl
theorem qhh (k n : Nat) (fu : List (Nat × Nat)) (x0 x1 x2 : Int) (z3 : Bool) (l4 : List Int) : lp k impl_sum [] fu 3 (n + 1) (qju x0 x1 x2 z3 l4) =
 cond (decide (x2 < x1))
 (cond (decide ((0 : Int) ≤ x2) && decide (x2 < nI (List.length l4)))
 (lp k impl_sum [] fu 3 n (qju (IntKind.wrap .i64 (x0 + List.getD l4 (Int.toNat x2) (0 : Int))) x1 (IntKind.wrap .i64 (x2 + (1 : Int))) z3 l4))
 (none))
 (some [(.int .i64 (x0))]) := by kernel_rfl
def qj5 (x0 x1 : Int) (z2 : Bool) (l3 : List Int) : St := ⟨fill 19 [(0, (.sl 0 none)), (1, (.fn impl_State_hasCells_1 [])), (7, (.int .i64 (x0))), (8, (.int .i64 (x1)))], [], [(.arr false (z2) (.ints .i64 (l3)))]⟩
theorem qfu (k : Nat) (v0 : Bool) (v1 : List Int) : go (k + 1) slices_IndexFunc_int_int [(.arr false (v0) (.ints .i64 (v1))), (.fn impl_State_hasCells_1 [])] =
 lp k slices_IndexFunc_int_int [] [] 2 k (qj5 (nI (List.length v1)) (0 : Int) v0 v1) := by kernel_rfl
theorem qhs (k n : Nat) (fu : List (Nat × Nat)) (x0 x1 : Int) (z2 : Bool) (l3 : List Int) : lp k slices_IndexFunc_int_int [] fu 2 (n + 1) (qj5 x0 x1 z2 l3) =
 cond (decide (x1 < x0))
 (cond (decide ((0 : Int) ≤ x1) && decide (x1 < nI (List.length l3)))
 ((go k impl_State_hasCells_1 [(.int .i64 (List.getD l3 (Int.toNat x1) (0 : Int)))]).bind fun r0 =>
 cond (bit (nth r0 0))
 (some [(.int .i64 (x1))])
 (lp k slices_IndexFunc_int_int [] fu 2 n (qj5 x0 (IntKind.wrap .i64 (x1 + (1 : Int))) z2 l3)))
 (none))
 (some [(.int .i64 ((-1 : Int)))]) := by kernel_rfl
theorem qft (k : Nat) (v0 : Bool) (v1 : List Int) : go (k + 1) slices_ContainsFunc_int_int [(.arr false (v0) (.ints .i64 (v1))), (.fn impl_State_hasCells_1 [])] =
 (go k slices_IndexFunc_int_int [(.arr false (v0) (.ints .i64 (v1))), (.fn impl_State_hasCells_1 [])]).bind fun r0 =>
 some [(.bool (decide ((0 : Int) ≤ D.toInt (nth r0 0))))] := by kernel_rfl
end Go.Proofs.YtjfjniebmdafeaaDoor
end
section
namespace Go.Proofs.YtjfjniebmdafeaaDoor
open Go.Ev
theorem qf9 (k : Nat) (a b c : Int) : go (k + 1) spec_l01In [(.int .i64 (a)), (.int .i64 (b)), (.int .i64 (c))] =
 cond (decide (b ≤ a))
 (some [(.bool (decide (a ≤ c)))])
 (some [(.bool (false))]) := by kernel_rfl
theorem qeu (k : Nat) (a b c : Int) : go (k + 1) impl_within [(.int .i64 (a)), (.int .i64 (b)), (.int .i64 (c))] =
 cond (decide (b ≤ a))
 (some [(.bool (decide (a ≤ c)))])
 (some [(.bool (false))]) := by kernel_rfl
theorem qeo (k : Nat) (a : Int) : go (k + 1) impl_isLevel [(.int .i64 (a))] =
 (go k impl_within [(.int .i64 (a)), (.int .i64 (0 : Int)), (.int .i64 ((4 : Int)))]).bind fun r0 =>
 some [(.bool (bit (nth r0 0)))] := by kernel_rfl
theorem qf0 (k : Nat) (a0 a1 a2 : Int) : go (k + 1) spec_IdOk [(.agg [(.int .i64 (a0)), (.int .i64 (a1)), (.int .i64 (a2))])] =
 (go k spec_l01In [(.int .i64 (a0)), (.int .i64 (0 : Int)), (.int .i64 ((7 : Int)))]).bind fun r0 =>
 cond (bit (nth r0 0))
 ((go k spec_l01In [(.int .i64 (a1)), (.int .i64 (0 : Int)), (.int .i64 ((4 : Int)))]).bind fun r1 =>
 cond (bit (nth r1 0))
 (cond (decide ((0 : Int) ≤ a2))
 (cond (decide ((0 : Int) ≤ IntKind.wrap IntKind.u64 a1))
 (some [(.bool (decide (a2 < IntKind.wrap .i64 ((1 : Int) * (2 : Int) ^ shiftN .i64 (IntKind.wrap IntKind.u64 a1)))))])
 (none))
 (some [(.bool (false))]))
 (some [(.bool (false))]))
 (some [(.bool (false))]) := by kernel_rfl
theorem qd5 (k : Nat) (a0 a1 a2 : Int) : go (k + 1) impl_IdOk [(.agg [(.int .i64 (a0)), (.int .i64 (a1)), (.int .i64 (a2))])] =
 (go k impl_within [(.int .i64 (a0)), (.int .i64 (0 : Int)), (.int .i64 ((7 : Int)))]).bind fun r0 =>
 cond (bit (nth r0 0))
 ((go k impl_isLevel [(.int .i64 (a1))]).bind fun r1 =>
 cond (bit (nth r1 0))
 (cond (decide ((0 : Int) ≤ a1))
 ((go k impl_within [(.int .i64 (a2)), (.int .i64 (0 : Int)), (.int .i64 (IntKind.wrap .i64 (IntKind.wrap .i64 ((1 : Int) * (2 : Int) ^ shiftN .i64 a1) - (1 : Int))))]).bind fun r2 =>
 some [(.bool (bit (nth r2 0)))])
 (none))
 (some [(.bool (false))]))
 (some [(.bool (false))]) := by kernel_rfl
theorem qf6 (k : Nat) (a : Int) : go (k + 1) spec_WidthOf [(.int .i64 (a))] =
 (go k spec_l01In [(.int .i64 (a)), (.int .i64 (0 : Int)), (.int .i64 ((4 : Int)))]).bind fun r0 =>
 cond (!bit (nth r0 0))
 (some [(.int .i64 (0 : Int))])
 (cond (decide ((0 : Int) ≤ IntKind.wrap IntKind.u64 a))
 (some [(.int .i64 (Int.fdiv (16 : Int) ((2 : Int) ^ shiftN .i64 (IntKind.wrap IntKind.u64 a))))])
 (none)) := by kernel_rfl
theorem qeh (k : Nat) (a : Int) : go (k + 1) impl_WidthOf [(.int .i64 (a))] =
 (go k impl_isLevel [(.int .i64 (a))]).bind fun r0 =>
 cond (!bit (nth r0 0))
 (some [(.int .i64 (0 : Int))])
 (cond (decide ((0 : Int) ≤ a))
 (some [(.int .i64 (Int.fdiv (16 : Int) ((2 : Int) ^ shiftN .i64 a)))])
 (none)) := by kernel_rfl
theorem qf4 (k : Nat) (a0 a1 a2 : Int) : go (k + 1) spec_StartOf [(.agg [(.int .i64 (a0)), (.int .i64 (a1)), (.int .i64 (a2))])] =
 (go k spec_IdOk [(.agg [(.int .i64 (a0)), (.int .i64 (a1)), (.int .i64 (a2))])]).bind fun r0 =>
 cond (!bit (nth r0 0))
 (some [(.int .i64 ((-1 : Int)))])
 ((go k spec_WidthOf [(.int .i64 (a1))]).bind fun r1 =>
 some [(.int .i64 (IntKind.wrap .i64 (IntKind.wrap .i64 (a0 * (16 : Int)) + IntKind.wrap .i64 (a2 * D.toInt (nth r1 0)))))]) := by kernel_rfl
theorem qec (k : Nat) (a0 a1 a2 : Int) : go (k + 1) impl_StartOf [(.agg [(.int .i64 (a0)), (.int .i64 (a1)), (.int .i64 (a2))])] =
 (go k impl_IdOk [(.agg [(.int .i64 (a0)), (.int .i64 (a1)), (.int .i64 (a2))])]).bind fun r0 =>
 cond (!bit (nth r0 0))
 (some [(.int .i64 ((-1 : Int)))])
 ((go k impl_WidthOf [(.int .i64 (a1))]).bind fun r1 =>
 some [(.int .i64 (IntKind.wrap .i64 (IntKind.wrap .i64 (a0 * (16 : Int)) + IntKind.wrap .i64 (a2 * D.toInt (nth r1 0)))))]) := by kernel_rfl
theorem qga (k : Nat) (a0 a1 a2 : Int) : go (k + 1) spec_l04End [(.agg [(.int .i64 (a0)), (.int .i64 (a1)), (.int .i64 (a2))])] =
 (go k spec_StartOf [(.agg [(.int .i64 (a0)), (.int .i64 (a1)), (.int .i64 (a2))])]).bind fun r0 =>
 (go k spec_WidthOf [(.int .i64 (a1))]).bind fun r1 =>
 some [(.int .i64 (IntKind.wrap .i64 (D.toInt (nth r0 0) + D.toInt (nth r1 0))))] := by kernel_rfl
theorem qel (k : Nat) (a0 a1 a2 : Int) : go (k + 1) impl_endOf [(.agg [(.int .i64 (a0)), (.int .i64 (a1)), (.int .i64 (a2))])] =
 (go k impl_StartOf [(.agg [(.int .i64 (a0)), (.int .i64 (a1)), (.int .i64 (a2))])]).bind fun r0 =>
 (go k impl_WidthOf [(.int .i64 (a1))]).bind fun r1 =>
 some [(.int .i64 (IntKind.wrap .i64 (D.toInt (nth r0 0) + D.toInt (nth r1 0))))] := by kernel_rfl
def qka (x0 x1 : Int) (z2 : Bool) (l3 : List (Int × Int × Int)) (x4 : Int) : St := ⟨fill 45 [(1, (.ptr 1 (0) (0))), (3, (.int .i64 (x0))), (4, (.int .i64 (x1)))], [], [(.arr false (z2) (.r3 (l3))), (.box true [(.int .i64 (x4)), (.sl 0 none)])]⟩
theorem qf2 (k : Nat) (a0 : Int) (a1z : Bool) (a1 : List (Int × Int × Int)) : go (k + 1) spec_MeshOk [(.agg [(.int .i64 (a0)), (.arr false (a1z) (.r3 (a1)))])] =
 lp k spec_MeshOk [] [] 3 k (qka (0 : Int) (0 : Int) a1z a1 a0) := by kernel_rfl
theorem qhx (k n : Nat) (fu : List (Nat × Nat)) (x0 x1 : Int) (z2 : Bool) (l3 : List (Int × Int × Int)) (x4 : Int) : lp k spec_MeshOk [] fu 3 (n + 1) (qka x0 x1 z2 l3 x4) =
 cond (decide (x1 < nI (List.length l3)))
 (cond (decide ((0 : Int) ≤ x1) && decide (x1 < nI (List.length l3)))
 ((go k spec_IdOk [(.agg [(.int .i64 (Prod.fst (List.getD l3 (Int.toNat x1) zz3))), (.int .i64 (Prod.fst (Prod.snd (List.getD l3 (Int.toNat x1) zz3)))), (.int .i64 (Prod.snd (Prod.snd (List.getD l3 (Int.toNat x1) zz3))))])]).bind fun r0 =>
 cond (!bit (nth r0 0))
 (some [(.bool (false))])
 (cond (decide ((0 : Int) ≤ x1) && decide (x1 < nI (List.length l3)))
 ((go k spec_StartOf [(.agg [(.int .i64 (Prod.fst (List.getD l3 (Int.toNat x1) zz3))), (.int .i64 (Prod.fst (Prod.snd (List.getD l3 (Int.toNat x1) zz3)))), (.int .i64 (Prod.snd (Prod.snd (List.getD l3 (Int.toNat x1) zz3))))])]).bind fun r1 =>
 cond (!decide (D.toInt (nth r1 0) = x0))
 (some [(.bool (false))])
 (cond (decide ((0 : Int) ≤ x1) && decide (x1 < nI (List.length l3)))
 ((go k spec_l04End [(.agg [(.int .i64 (Prod.fst (List.getD l3 (Int.toNat x1) zz3))), (.int .i64 (Prod.fst (Prod.snd (List.getD l3 (Int.toNat x1) zz3)))), (.int .i64 (Prod.snd (Prod.snd (List.getD l3 (Int.toNat x1) zz3))))])]).bind fun r2 =>
 lp k spec_MeshOk [] fu 3 n (qka (D.toInt (nth r2 0)) (IntKind.wrap .i64 (x1 + (1 : Int))) z2 l3 x4))
 (none)))
 (none)))
 (none))
 ((go k spec_l01In [(.int .i64 (x4)), (.int .i64 ((1 : Int))), (.int .i64 ((8 : Int)))]).bind fun r3 =>
 cond (bit (nth r3 0))
 (some [(.bool (decide (x0 = IntKind.wrap .i64 (x4 * (16 : Int)))))])
 (some [(.bool (false))])) := by kernel_rfl
def qjr (x0 x1 x2 : Int) (z3 : Bool) (l4 : List (Int × Int × Int)) (x5 : Int) : St := ⟨fill 35 [(1, (.ptr 1 (0) (0))), (3, (.int .i64 (x0))), (7, (.sl 0 none)), (8, (.int .i64 (x1))), (9, (.int .i64 (x2)))], [], [(.arr false (z3) (.r3 (l4))), (.box true [(.int .i64 (x5)), (.sl 0 none)])]⟩
theorem qd8 (k : Nat) (a0 : Int) (a1z : Bool) (a1 : List (Int × Int × Int)) : go (k + 1) impl_MeshOk [(.agg [(.int .i64 (a0)), (.arr false (a1z) (.r3 (a1)))])] =
 lp k impl_MeshOk [] [] 3 k (qjr (0 : Int) (nI (List.length a1)) (0 : Int) a1z a1 a0) := by kernel_rfl
theorem qhd (k n : Nat) (fu : List (Nat × Nat)) (x0 x1 x2 : Int) (z3 : Bool) (l4 : List (Int × Int × Int)) (x5 : Int) : lp k impl_MeshOk [] fu 3 (n + 1) (qjr x0 x1 x2 z3 l4 x5) =
 cond (decide (x2 < x1))
 (cond (decide ((0 : Int) ≤ x2) && decide (x2 < nI (List.length l4)))
 ((go k impl_IdOk [(.agg [(.int .i64 (Prod.fst (List.getD l4 (Int.toNat x2) zz3))), (.int .i64 (Prod.fst (Prod.snd (List.getD l4 (Int.toNat x2) zz3)))), (.int .i64 (Prod.snd (Prod.snd (List.getD l4 (Int.toNat x2) zz3))))])]).bind fun r0 =>
 cond (!bit (nth r0 0))
 (some [(.bool (false))])
 ((go k impl_StartOf [(.agg [(.int .i64 (Prod.fst (List.getD l4 (Int.toNat x2) zz3))), (.int .i64 (Prod.fst (Prod.snd (List.getD l4 (Int.toNat x2) zz3)))), (.int .i64 (Prod.snd (Prod.snd (List.getD l4 (Int.toNat x2) zz3))))])]).bind fun r1 =>
 cond (!decide (D.toInt (nth r1 0) = x0))
 (some [(.bool (false))])
 ((go k impl_endOf [(.agg [(.int .i64 (Prod.fst (List.getD l4 (Int.toNat x2) zz3))), (.int .i64 (Prod.fst (Prod.snd (List.getD l4 (Int.toNat x2) zz3)))), (.int .i64 (Prod.snd (Prod.snd (List.getD l4 (Int.toNat x2) zz3))))])]).bind fun r2 =>
 lp k impl_MeshOk [] fu 3 n (qjr (D.toInt (nth r2 0)) x1 (IntKind.wrap .i64 (x2 + (1 : Int))) z3 l4 x5))))
 (none))
 ((go k impl_within [(.int .i64 (x5)), (.int .i64 ((1 : Int))), (.int .i64 ((8 : Int)))]).bind fun r3 =>
 cond (bit (nth r3 0))
 (some [(.bool (decide (x0 = IntKind.wrap .i64 (x5 * (16 : Int)))))])
 (some [(.bool (false))])) := by kernel_rfl
def qkd (x0 : Int) (z1 : Bool) (l2 : List (Int × Int × Int)) (x3 : Int) : St := ⟨fill 34 [(1, (.ptr 1 (0) (0))), (3, (.int .i64 (x0)))], [], [(.arr false (z1) (.r3 (l2))), (.box true [(.int .i64 (x3)), (.sl 0 none)])]⟩
theorem qgb (k : Nat) (a0 : Int) (a1z : Bool) (a1 : List (Int × Int × Int)) : go (k + 1) spec_l05First [(.agg [(.int .i64 (a0)), (.arr false (a1z) (.r3 (a1)))])] =
 lp k spec_l05First [] [] 2 k (qkd (0 : Int) a1z a1 a0) := by kernel_rfl
theorem qh0 (k n : Nat) (fu : List (Nat × Nat)) (x0 : Int) (z1 : Bool) (l2 : List (Int × Int × Int)) (x3 : Int) : lp k spec_l05First [] fu 2 (n + 1) (qkd x0 z1 l2 x3) =
 cond (decide (IntKind.wrap .i64 (x0 + (1 : Int)) < nI (List.length l2)))
 (cond (decide ((0 : Int) ≤ x0) && decide (x0 < nI (List.length l2)))
 (cond (decide ((0 : Int) ≤ IntKind.wrap .i64 (x0 + (1 : Int))) && decide (IntKind.wrap .i64 (x0 + (1 : Int)) < nI (List.length l2)))
 (cond (decide ((1 : Int) < IntKind.wrap .i64 (Prod.fst (Prod.snd (List.getD l2 (Int.toNat x0) zz3)) - Prod.fst (Prod.snd (List.getD l2 (Int.toNat (IntKind.wrap .i64 (x0 + (1 : Int)))) zz3)))))
 (some [(.int .i64 (x0))])
 (cond (decide (IntKind.wrap .i64 (Prod.fst (Prod.snd (List.getD l2 (Int.toNat x0) zz3)) - Prod.fst (Prod.snd (List.getD l2 (Int.toNat (IntKind.wrap .i64 (x0 + (1 : Int)))) zz3))) < (-1 : Int)))
 (some [(.int .i64 (x0))])
 (lp k spec_l05First [] fu 2 n (qkd (IntKind.wrap .i64 (x0 + (1 : Int))) z1 l2 x3))))
 (none))
 (none))
 (some [(.int .i64 ((-1 : Int)))]) := by kernel_rfl
def qjs (x0 x1 : Int) (z2 : Bool) (l3 : List (Int × Int × Int)) (x4 : Int) : St := ⟨fill 29 [(1, (.ptr 1 (0) (0))), (7, (.int .i64 (x0))), (8, (.int .i64 (x1)))], [], [(.arr false (z2) (.r3 (l3))), (.box true [(.int .i64 (x4)), (.sl 0 none)])]⟩
theorem qea (k : Nat) (a0 : Int) (a1z : Bool) (a1 : List (Int × Int × Int)) : go (k + 1) impl_Mesh_unbalanced [(.agg [(.int .i64 (a0)), (.arr false (a1z) (.r3 (a1)))])] =
 lp k impl_Mesh_unbalanced [] [] 2 k (qjs (IntKind.wrap .i64 (nI (List.length a1) - (1 : Int))) (0 : Int) a1z a1 a0) := by kernel_rfl
theorem qhf (k n : Nat) (fu : List (Nat × Nat)) (x0 x1 : Int) (z2 : Bool) (l3 : List (Int × Int × Int)) (x4 : Int) : lp k impl_Mesh_unbalanced [] fu 2 (n + 1) (qjs x0 x1 z2 l3 x4) =
 cond (decide (x1 < x0))
 (cond (decide ((0 : Int) ≤ x1) && decide (x1 < nI (List.length l3)))
 (cond (decide ((0 : Int) ≤ IntKind.wrap .i64 (x1 + (1 : Int))) && decide (IntKind.wrap .i64 (x1 + (1 : Int)) < nI (List.length l3)))
 ((go k impl_absolute [(.int .i64 (IntKind.wrap .i64 (Prod.fst (Prod.snd (List.getD l3 (Int.toNat x1) zz3)) - Prod.fst (Prod.snd (List.getD l3 (Int.toNat (IntKind.wrap .i64 (x1 + (1 : Int)))) zz3)))))]).bind fun r0 =>
 cond (decide ((1 : Int) < D.toInt (nth r0 0)))
 (some [(.int .i64 (x1))])
 (lp k impl_Mesh_unbalanced [] fu 2 n (qjs x0 (IntKind.wrap .i64 (x1 + (1 : Int))) z2 l3 x4)))
 (none))
 (none))
 (some [(.int .i64 ((-1 : Int)))]) := by kernel_rfl
theorem qek (k : Nat) (a : Int) : go (k + 1) impl_absolute [(.int .i64 (a))] =
 some [(.int .i64 (if IntKind.wrap .i64 ((0 : Int) - a) > a then IntKind.wrap .i64 ((0 : Int) - a) else a))] := by kernel_rfl
theorem qf1 (k : Nat) (a0 : Int) (a1z : Bool) (a1 : List (Int × Int × Int)) : go (k + 1) spec_IsBalanced [(.agg [(.int .i64 (a0)), (.arr false (a1z) (.r3 (a1)))])] =
 (go k spec_MeshOk [(.agg [(.int .i64 (a0)), (.arr false (a1z) (.r3 (a1)))])]).bind fun r0 =>
 cond (bit (nth r0 0))
 ((go k spec_l05First [(.agg [(.int .i64 (a0)), (.arr false (a1z) (.r3 (a1)))])]).bind fun r1 =>
 some [(.bool (decide (D.toInt (nth r1 0) < (0 : Int))))])
 (some [(.bool (false))]) := by kernel_rfl
theorem qd7 (k : Nat) (a0 : Int) (a1z : Bool) (a1 : List (Int × Int × Int)) : go (k + 1) impl_IsBalanced [(.agg [(.int .i64 (a0)), (.arr false (a1z) (.r3 (a1)))])] =
 (go k impl_MeshOk [(.agg [(.int .i64 (a0)), (.arr false (a1z) (.r3 (a1)))])]).bind fun r0 =>
 cond (bit (nth r0 0))
 ((go k impl_Mesh_unbalanced [(.agg [(.int .i64 (a0)), (.arr false (a1z) (.r3 (a1)))])]).bind fun r1 =>
 some [(.bool (decide (D.toInt (nth r1 0) < (0 : Int))))])
 (some [(.bool (false))]) := by kernel_rfl

end Go.Proofs.YtjfjniebmdafeaaDoor
end
section
namespace Go.Proofs.YtjfjniebmdafeaaDoor
open Go.Ev
theorem qk8 {x : Int} (h : -9223372036854775808 ≤ x) (h' : x ≤ 9223372036854775807) : IntKind.wrap .i64 x = x := by rw [IntKind.wrap_i64]; omega
theorem qk9 {x : Int} (h : 0 ≤ x) (h' : x ≤ 9223372036854775807) : IntKind.wrap .u64 x = x := by rw [IntKind.wrap_u64]; omega
theorem qk7 {x : Int} (h : 0 ≤ x) (h' : x ≤ 255) : IntKind.wrap .u8 x = x := by rw [IntKind.wrap_u8]; omega
theorem nth0 (d0 : D) (l : List D) : nth (d0 :: l) 0 = d0 := Eq.trans rfl rfl
theorem nth1 (d0 d1 : D) (l : List D) : nth (d0 :: d1 :: l) 1 = d1 := Eq.trans rfl rfl
theorem nth2 (d0 d1 d2 : D) (l : List D) : nth (d0 :: d1 :: d2 :: l) 2 = d2 := Eq.trans rfl rfl
theorem nth3 (d0 d1 d2 d3 : D) (l : List D) : nth (d0 :: d1 :: d2 :: d3 :: l) 3 = d3 := Eq.trans rfl rfl
theorem qc1 (d0 : D) (l : List D) : (D.agg (d0 :: l)).cell 0 = d0 := Eq.trans rfl rfl
theorem qc2 (d0 d1 : D) (l : List D) : (D.agg (d0 :: d1 :: l)).cell 1 = d1 := Eq.trans rfl rfl
theorem qdd (d0 d1 d2 : D) (l : List D) : (D.agg (d0 :: d1 :: d2 :: l)).cell 2 = d2 := Eq.trans rfl rfl
theorem qdi (d0 d1 d2 d3 : D) (l : List D) : (D.agg (d0 :: d1 :: d2 :: d3 :: l)).cell 3 = d3 := Eq.trans rfl rfl
theorem qdj (d0 d1 d2 d3 d4 : D) (l : List D) : (D.agg (d0 :: d1 :: d2 :: d3 :: d4 :: l)).cell 4 = d4 := Eq.trans rfl rfl
theorem qdk (d0 d1 d2 d3 d4 d5 : D) (l : List D) : (D.agg (d0 :: d1 :: d2 :: d3 :: d4 :: d5 :: l)).cell 5 = d5 := Eq.trans rfl rfl
theorem qdl (d0 d1 d2 d3 d4 d5 d6 : D) (l : List D) : (D.agg (d0 :: d1 :: d2 :: d3 :: d4 :: d5 :: d6 :: l)).cell 6 = d6 := Eq.trans rfl rfl
theorem qdm (d0 d1 d2 d3 d4 d5 d6 d7 : D) (l : List D) : (D.agg (d0 :: d1 :: d2 :: d3 :: d4 :: d5 :: d6 :: d7 :: l)).cell 7 = d7 := Eq.trans rfl rfl
theorem qdn (d0 d1 d2 d3 d4 d5 d6 d7 d8 : D) (l : List D) : (D.agg (d0 :: d1 :: d2 :: d3 :: d4 :: d5 :: d6 :: d7 :: d8 :: l)).cell 8 = d8 := Eq.trans rfl rfl
theorem qdo (d0 d1 d2 d3 d4 d5 d6 d7 d8 d9 : D) (l : List D) : (D.agg (d0 :: d1 :: d2 :: d3 :: d4 :: d5 :: d6 :: d7 :: d8 :: d9 :: l)).cell 9 = d9 := Eq.trans rfl rfl
theorem qc3 (d0 d1 d2 d3 d4 d5 d6 d7 d8 d9 d10 : D) (l : List D) : (D.agg (d0 :: d1 :: d2 :: d3 :: d4 :: d5 :: d6 :: d7 :: d8 :: d9 :: d10 :: l)).cell 10 = d10 := Eq.trans rfl rfl
theorem qc4 (d0 d1 d2 d3 d4 d5 d6 d7 d8 d9 d10 d11 : D) (l : List D) : (D.agg (d0 :: d1 :: d2 :: d3 :: d4 :: d5 :: d6 :: d7 :: d8 :: d9 :: d10 :: d11 :: l)).cell 11 = d11 := Eq.trans rfl rfl
theorem qc5 (d0 d1 d2 d3 d4 d5 d6 d7 d8 d9 d10 d11 d12 : D) (l : List D) : (D.agg (d0 :: d1 :: d2 :: d3 :: d4 :: d5 :: d6 :: d7 :: d8 :: d9 :: d10 :: d11 :: d12 :: l)).cell 12 = d12 := Eq.trans rfl rfl
theorem qc6 (d0 d1 d2 d3 d4 d5 d6 d7 d8 d9 d10 d11 d12 d13 : D) (l : List D) : (D.agg (d0 :: d1 :: d2 :: d3 :: d4 :: d5 :: d6 :: d7 :: d8 :: d9 :: d10 :: d11 :: d12 :: d13 :: l)).cell 13 = d13 := Eq.trans rfl rfl
theorem qc7 (d0 d1 d2 d3 d4 d5 d6 d7 d8 d9 d10 d11 d12 d13 d14 : D) (l : List D) : (D.agg (d0 :: d1 :: d2 :: d3 :: d4 :: d5 :: d6 :: d7 :: d8 :: d9 :: d10 :: d11 :: d12 :: d13 :: d14 :: l)).cell 14 = d14 := Eq.trans rfl rfl
theorem qc8 (d0 d1 d2 d3 d4 d5 d6 d7 d8 d9 d10 d11 d12 d13 d14 d15 : D) (l : List D) : (D.agg (d0 :: d1 :: d2 :: d3 :: d4 :: d5 :: d6 :: d7 :: d8 :: d9 :: d10 :: d11 :: d12 :: d13 :: d14 :: d15 :: l)).cell 15 = d15 := Eq.trans rfl rfl
theorem qc9 (d0 d1 d2 d3 d4 d5 d6 d7 d8 d9 d10 d11 d12 d13 d14 d15 d16 : D) (l : List D) : (D.agg (d0 :: d1 :: d2 :: d3 :: d4 :: d5 :: d6 :: d7 :: d8 :: d9 :: d10 :: d11 :: d12 :: d13 :: d14 :: d15 :: d16 :: l)).cell 16 = d16 := Eq.trans rfl rfl
theorem qda (d0 d1 d2 d3 d4 d5 d6 d7 d8 d9 d10 d11 d12 d13 d14 d15 d16 d17 : D) (l : List D) : (D.agg (d0 :: d1 :: d2 :: d3 :: d4 :: d5 :: d6 :: d7 :: d8 :: d9 :: d10 :: d11 :: d12 :: d13 :: d14 :: d15 :: d16 :: d17 :: l)).cell 17 = d17 := Eq.trans rfl rfl
theorem qdb (d0 d1 d2 d3 d4 d5 d6 d7 d8 d9 d10 d11 d12 d13 d14 d15 d16 d17 d18 : D) (l : List D) : (D.agg (d0 :: d1 :: d2 :: d3 :: d4 :: d5 :: d6 :: d7 :: d8 :: d9 :: d10 :: d11 :: d12 :: d13 :: d14 :: d15 :: d16 :: d17 :: d18 :: l)).cell 18 = d18 := Eq.trans rfl rfl
theorem qdc (d0 d1 d2 d3 d4 d5 d6 d7 d8 d9 d10 d11 d12 d13 d14 d15 d16 d17 d18 d19 : D) (l : List D) : (D.agg (d0 :: d1 :: d2 :: d3 :: d4 :: d5 :: d6 :: d7 :: d8 :: d9 :: d10 :: d11 :: d12 :: d13 :: d14 :: d15 :: d16 :: d17 :: d18 :: d19 :: l)).cell 19 = d19 := Eq.trans rfl rfl
theorem qde (d0 d1 d2 d3 d4 d5 d6 d7 d8 d9 d10 d11 d12 d13 d14 d15 d16 d17 d18 d19 d20 : D) (l : List D) : (D.agg (d0 :: d1 :: d2 :: d3 :: d4 :: d5 :: d6 :: d7 :: d8 :: d9 :: d10 :: d11 :: d12 :: d13 :: d14 :: d15 :: d16 :: d17 :: d18 :: d19 :: d20 :: l)).cell 20 = d20 := Eq.trans rfl rfl
theorem qdf (d0 d1 d2 d3 d4 d5 d6 d7 d8 d9 d10 d11 d12 d13 d14 d15 d16 d17 d18 d19 d20 d21 : D) (l : List D) : (D.agg (d0 :: d1 :: d2 :: d3 :: d4 :: d5 :: d6 :: d7 :: d8 :: d9 :: d10 :: d11 :: d12 :: d13 :: d14 :: d15 :: d16 :: d17 :: d18 :: d19 :: d20 :: d21 :: l)).cell 21 = d21 := Eq.trans rfl rfl
theorem qdg (d0 d1 d2 d3 d4 d5 d6 d7 d8 d9 d10 d11 d12 d13 d14 d15 d16 d17 d18 d19 d20 d21 d22 : D) (l : List D) : (D.agg (d0 :: d1 :: d2 :: d3 :: d4 :: d5 :: d6 :: d7 :: d8 :: d9 :: d10 :: d11 :: d12 :: d13 :: d14 :: d15 :: d16 :: d17 :: d18 :: d19 :: d20 :: d21 :: d22 :: l)).cell 22 = d22 := Eq.trans rfl rfl
theorem qdh (d0 d1 d2 d3 d4 d5 d6 d7 d8 d9 d10 d11 d12 d13 d14 d15 d16 d17 d18 d19 d20 d21 d22 d23 : D) (l : List D) : (D.agg (d0 :: d1 :: d2 :: d3 :: d4 :: d5 :: d6 :: d7 :: d8 :: d9 :: d10 :: d11 :: d12 :: d13 :: d14 :: d15 :: d16 :: d17 :: d18 :: d19 :: d20 :: d21 :: d22 :: d23 :: l)).cell 23 = d23 := Eq.trans rfl rfl
theorem qky (k : IntKind) (n : Int) : (D.int k n).toInt = n := Eq.trans rfl rfl
theorem qkx (b : Bool) : (D.bool b).toBool = b := Eq.trans rfl rfl
theorem qkz (s : ByteArray) : (D.str s).toStr = s := Eq.trans rfl rfl
theorem qjb (o n : Bool) (a : Arr) : (D.arr o n a).nil = n := Eq.trans rfl rfl
theorem qjk (o n : Bool) (l : List (Int × Int × Int)) : (D.arr o n (.r3 l)).r3 = l := Eq.trans rfl rfl
theorem qjm (o n : Bool) (l : List (Int × Int × Int × Int)) : (D.arr o n (.r4 l)).r4 = l := Eq.trans rfl rfl
theorem qgx (o n : Bool) (k : IntKind) (l : List Int) : (D.arr o n (.ints k l)).ints = l := Eq.trans rfl rfl
theorem qak (o n : Bool) (l : List Bool) : (D.arr o n (.bools l)).bools = l := Eq.trans rfl rfl
theorem qku (o n : Bool) (l : List ByteArray) : (D.arr o n (.strs l)).strs = l := Eq.trans rfl rfl
theorem qdt {α : Type} (x y : α) : cond true x y = x := Eq.trans rfl rfl
theorem qdr {α : Type} (x y : α) : cond false x y = y := Eq.trans rfl rfl
theorem qai {α : Type} (x : List D) (f : List D → Option α) : (some x).bind f = f x := Eq.trans rfl rfl
theorem dT {p : Prop} {i : Decidable p} (h : p) : @decide p i = true := by cases i <;> simp_all
theorem dF {p : Prop} {i : Decidable p} (h : ¬p) : @decide p i = false := by cases i <;> simp_all
theorem qcz (i : Nat) : (i : Int) + 1 = ((i + 1 : Nat) : Int) := Eq.trans rfl rfl
theorem qc0 (i : Nat) : (i : Int) + 2 = ((i + 2 : Nat) : Int) := Eq.trans rfl rfl
theorem imax (x y : Int) : (if x > y then x else y) = max x y := by by_cases h : x > y <;> simp only [h, if_true, if_false] <;> omega
theorem imin (x y : Int) : (if x < y then x else y) = min x y := by by_cases h : x < y <;> simp only [h, if_true, if_false] <;> omega
theorem qdu (b x : Bool) : cond (!b) (some [D.bool false]) (some [D.bool x]) = some [D.bool (b && x)] := by cases b <;> rfl
theorem qdv (b x : Bool) : cond b (some [D.bool x]) (some [D.bool false]) = some [D.bool (b && x)] := by cases b <;> rfl
theorem dTT {i : Decidable True} : @decide True i = true := by cases i with | isTrue _ => rfl | isFalse h => exact absurd trivial h
theorem dFF {i : Decidable False} : @decide False i = false := by cases i with | isTrue h => exact h.elim | isFalse _ => rfl
theorem bigI : ((bigLen : Nat) : Int) = 1099511627776 := Eq.trans rfl rfl
theorem qja {α : Type} (l : List α) : [] ++ l = l := Eq.trans rfl rfl
theorem big0 : bigLen = 1099511627776 := Eq.trans rfl rfl
theorem qd1 {α : Type} {l : List α} {i : Nat} (h : i < l.length) (d : α) : l.drop i = l.getD i d :: l.drop (i + 1) := by
  rw [List.drop_eq_getElem_cons h]; simp [h]
theorem qkf {α : Type} (l : List α) (i j : Nat) (x d : α) : (l.set i x).getD j d = if i = j ∧ i < l.length then x else l.getD j d := by
  simp only [List.getD_eq_getElem?_getD, List.getElem?_set]
  by_cases h : i = j
  · subst h
    by_cases h2 : i < l.length
    · simp [h2]
    · simp [h2]
  · simp [h]
theorem qkg {α : Type} (l m : List α) (i : Nat) (x : α) (t : List α) (h : i < l.length) : (l.set i x).take (i + 1) ++ t = l.take i ++ (x :: t) := by
  have : (l.set i x).take (i + 1) = l.take i ++ [x] := by
    rw [List.take_succ_eq_append_getElem (by simp; omega)]
    simp [List.take_set_of_le]
  rw [this]; simp
theorem qgo {α : Type} {l : List α} {i : Nat} (h : l.length ≤ i) (d : α) : l.getD i d = d := by simp [h]
theorem qgp {α : Type} {l : List α} {i : Nat} (h : i < l.length) (d : α) : l.getD i d ∈ l := by simp [h]
end Go.Proofs.YtjfjniebmdafeaaDoor
end
section
namespace Go.Proofs.YtjfjniebmdafeaaDoor
open Go.Ev
def inR (a b c : Int) : Bool := decide (b ≤ a) && decide (a ≤ c)
theorem qgu {a b c : Int} : inR a b c = true ↔ b ≤ a ∧ a ≤ c := by simp [inR]
theorem qcu (k : Nat) (hk : 2000000 ≤ k) (a : Int) (b : Int) (c : Int) : go (k + 1) spec_l01In [(.int .i64 (a)), (.int .i64 (b)), (.int .i64 (c))] = some [.bool (inR a b c)] := by
  rw [qf9]; unfold inR; cases decide (b ≤ a) <;> rfl
theorem qbi (k : Nat) (hk : 2000000 ≤ k) (a : Int) (b : Int) (c : Int) : go (k + 1) impl_within [(.int .i64 (a)), (.int .i64 (b)), (.int .i64 (c))] = some [.bool (inR a b c)] := by
  rw [qeu]; unfold inR; cases decide (b ≤ a) <;> rfl
def pow2 (l : Int) : Int := 2 ^ l.toNat
def idOk (r l i : Int) : Bool := inR r 0 7 && (inR l 0 4 && (decide (0 ≤ i) && decide (i < pow2 l)))
theorem lev {l : Int} (h : inR l 0 4 = true) : l = 0 ∨ l = 1 ∨ l = 2 ∨ l = 3 ∨ l = 4 := by
  simp only [inR, Bool.and_eq_true, decide_eq_true_eq] at h; omega
theorem p20 : pow2 0 = 1 := rfl
theorem p21 : pow2 1 = 2 := rfl
theorem p22 : pow2 2 = 4 := rfl
theorem p23 : pow2 3 = 8 := rfl
theorem p24 : pow2 4 = 16 := rfl
theorem sh0 : shiftN .i64 0 = 0 := by decide
theorem sh1 : shiftN .i64 1 = 1 := by decide
theorem sh2 : shiftN .i64 2 = 2 := by decide
theorem sh3 : shiftN .i64 3 = 3 := by decide
theorem sh4 : shiftN .i64 4 = 4 := by decide
theorem pw {l : Int} (h : inR l 0 4 = true) : IntKind.wrap .i64 ((1 : Int) * (2 : Int) ^ shiftN .i64 l) = pow2 l := by
  rcases lev h with rfl | rfl | rfl | rfl | rfl <;> simp [sh0, sh1, sh2, sh3, sh4, qk8, p20, p21, p22, p23, p24]
theorem lev0 {l : Int} (h : inR l 0 4 = true) : 0 ≤ l ∧ l ≤ 4 := by
  simp only [inR, Bool.and_eq_true, decide_eq_true_eq] at h; omega
theorem qjj {l : Int} (h : inR l 0 4 = true) : 1 ≤ pow2 l ∧ pow2 l ≤ 16 := by
  rcases lev h with rfl | rfl | rfl | rfl | rfl <;> simp [p20, p21, p22, p23, p24]
theorem qcm (k : Nat) (hk : 2000000 ≤ k) (a0 : Int) (a1 : Int) (a2 : Int) : go (k + 2) spec_IdOk [(.agg [(.int .i64 (a0)), (.int .i64 (a1)), (.int .i64 (a2))])] = some [.bool (idOk a0 a1 a2)] := by
  rw [qf0]
  simp (disch := omega) only [qai, nth0, nth1, nth2, nth3, bit, qc1, qc2, qdd, qdi, qdj, qdk, qdl, qdm, qdn, qdo, qc3, qc4, qc5, qc6, qc7, qc8, qc9, qda, qdb, qdc, qde, qdf, qdg, qdh, qky, qkx, qkz, qjb, qjk, qjm, qgx, qak, qku, nI, qdt, qdr, Bool.not_true, Bool.not_false, Bool.and_true, Bool.true_and, Bool.and_false, Bool.false_and, Bool.or_true, Bool.true_or, Bool.or_false, Bool.false_or, beq_self_eq_true, dTT, dFF, dT, dF, bigI, big0, qja, qk8, qk9, List.length_set, List.length_replicate, Int.toNat_natCast, qcz, qc0, imax, imin, qcu]
  unfold idOk
  cases h1 : inR a0 0 7 <;> cases h2 : inR a1 0 4 <;> simp only [qdt, qdr, Bool.true_and, Bool.false_and, Bool.and_false]
  have := lev0 h2
  rw [qk9 (x := a1) (by omega) (by omega), pw h2]
  by_cases h3 : (0 : Int) ≤ a2
  · simp [h3, this.1]
  · simp [h3]
theorem qba (k : Nat) (hk : 2000000 ≤ k) (a : Int) : go (k + 2) impl_isLevel [(.int .i64 (a))] = some [.bool (inR a 0 4)] := by
  rw [qeo]
  simp (disch := omega) only [qai, nth0, nth1, nth2, nth3, bit, qc1, qc2, qdd, qdi, qdj, qdk, qdl, qdm, qdn, qdo, qc3, qc4, qc5, qc6, qc7, qc8, qc9, qda, qdb, qdc, qde, qdf, qdg, qdh, qky, qkx, qkz, qjb, qjk, qjm, qgx, qak, qku, nI, qdt, qdr, Bool.not_true, Bool.not_false, Bool.and_true, Bool.true_and, Bool.and_false, Bool.false_and, Bool.or_true, Bool.true_or, Bool.or_false, Bool.false_or, beq_self_eq_true, dTT, dFF, dT, dF, bigI, big0, qja, qk8, qk9, List.length_set, List.length_replicate, Int.toNat_natCast, qcz, qc0, imax, imin, qbi]
theorem qas (k : Nat) (hk : 2000000 ≤ k) (a0 : Int) (a1 : Int) (a2 : Int) : go (k + 3) impl_IdOk [(.agg [(.int .i64 (a0)), (.int .i64 (a1)), (.int .i64 (a2))])] = some [.bool (idOk a0 a1 a2)] := by
  rw [qd5]
  simp (disch := omega) only [qai, nth0, nth1, nth2, nth3, bit, qc1, qc2, qdd, qdi, qdj, qdk, qdl, qdm, qdn, qdo, qc3, qc4, qc5, qc6, qc7, qc8, qc9, qda, qdb, qdc, qde, qdf, qdg, qdh, qky, qkx, qkz, qjb, qjk, qjm, qgx, qak, qku, nI, qdt, qdr, Bool.not_true, Bool.not_false, Bool.and_true, Bool.true_and, Bool.and_false, Bool.false_and, Bool.or_true, Bool.true_or, Bool.or_false, Bool.false_or, beq_self_eq_true, dTT, dFF, dT, dF, bigI, big0, qja, qk8, qk9, List.length_set, List.length_replicate, Int.toNat_natCast, qcz, qc0, imax, imin, qbi, qba]
  unfold idOk
  cases h1 : inR a0 0 7 <;> cases h2 : inR a1 0 4 <;> simp only [qdt, qdr, Bool.true_and, Bool.false_and, Bool.and_false]
  have := lev0 h2
  have := qjj h2
  rw [pw h2, qk8 (x := pow2 a1 - 1) (by omega) (by omega)]
  rw [show decide ((0 : Int) ≤ a1) = true by simp; omega, qdt]
  have e : inR a2 0 (pow2 a1 - 1) = (decide (0 ≤ a2) && decide (a2 < pow2 a1)) := by
    unfold inR; rw [Bool.eq_iff_iff]; simp only [Bool.and_eq_true, decide_eq_true_eq]; omega
  rw [e]
def qk3 (l : Int) : Int := if inR l 0 4 then 16 / pow2 l else 0
theorem qcs (k : Nat) (hk : 2000000 ≤ k) (a : Int) : go (k + 2) spec_WidthOf [(.int .i64 (a))] = some [.int .i64 (qk3 a)] := by
  rw [qf6]
  simp (disch := omega) only [qai, nth0, nth1, nth2, nth3, bit, qc1, qc2, qdd, qdi, qdj, qdk, qdl, qdm, qdn, qdo, qc3, qc4, qc5, qc6, qc7, qc8, qc9, qda, qdb, qdc, qde, qdf, qdg, qdh, qky, qkx, qkz, qjb, qjk, qjm, qgx, qak, qku, nI, qdt, qdr, Bool.not_true, Bool.not_false, Bool.and_true, Bool.true_and, Bool.and_false, Bool.false_and, Bool.or_true, Bool.true_or, Bool.or_false, Bool.false_or, beq_self_eq_true, dTT, dFF, dT, dF, bigI, big0, qja, qk8, qk9, List.length_set, List.length_replicate, Int.toNat_natCast, qcz, qc0, imax, imin, qcu, qk3]
  cases h2 : inR a 0 4
  · simp
  · rcases lev h2 with rfl | rfl | rfl | rfl | rfl <;> simp [qk9, sh0, sh1, sh2, sh3, sh4, p20, p21, p22, p23, p24] <;> decide
theorem qa1 (k : Nat) (hk : 2000000 ≤ k) (a : Int) : go (k + 3) impl_WidthOf [(.int .i64 (a))] = some [.int .i64 (qk3 a)] := by
  rw [qeh]
  simp (disch := omega) only [qai, nth0, nth1, nth2, nth3, bit, qc1, qc2, qdd, qdi, qdj, qdk, qdl, qdm, qdn, qdo, qc3, qc4, qc5, qc6, qc7, qc8, qc9, qda, qdb, qdc, qde, qdf, qdg, qdh, qky, qkx, qkz, qjb, qjk, qjm, qgx, qak, qku, nI, qdt, qdr, Bool.not_true, Bool.not_false, Bool.and_true, Bool.true_and, Bool.and_false, Bool.false_and, Bool.or_true, Bool.true_or, Bool.or_false, Bool.false_or, beq_self_eq_true, dTT, dFF, dT, dF, bigI, big0, qja, qk8, qk9, List.length_set, List.length_replicate, Int.toNat_natCast, qcz, qc0, imax, imin, qba, qk3]
  cases h2 : inR a 0 4
  · simp
  · rcases lev h2 with rfl | rfl | rfl | rfl | rfl <;> simp [qk9, sh0, sh1, sh2, sh3, sh4, p20, p21, p22, p23, p24] <;> decide
def qkn (r l i : Int) : Int := if idOk r l i then r * 16 + i * qk3 l else -1
theorem qk5 (l : Int) : 0 ≤ qk3 l ∧ qk3 l ≤ 16 := by
  unfold qk3
  cases h : inR l 0 4
  · simp
  · rcases lev h with rfl | rfl | rfl | rfl | rfl <;> decide
theorem qgr {r l i : Int} (h : idOk r l i = true) : 0 ≤ r ∧ r ≤ 7 ∧ inR l 0 4 = true ∧ 0 ≤ i ∧ i < pow2 l := by
  simp only [idOk, Bool.and_eq_true, decide_eq_true_eq] at h
  obtain ⟨h1, h2, h3, h4⟩ := h
  simp only [inR, Bool.and_eq_true, decide_eq_true_eq] at h1
  exact ⟨h1.1, h1.2, h2, h3, h4⟩
theorem iw {r l i : Int} (h : idOk r l i = true) : 0 ≤ i * qk3 l ∧ i * qk3 l ≤ 256 := by
  obtain ⟨_, _, h2, h3, h4⟩ := qgr h
  have h5 := (qjj h2).2
  have h6 := qk5 l
  have h7 : i ≤ 16 := by omega
  refine ⟨Int.mul_nonneg h3 h6.1, ?_⟩
  calc i * qk3 l ≤ 16 * qk3 l := Int.mul_le_mul_of_nonneg_right h7 h6.1
    _ ≤ 16 * 16 := Int.mul_le_mul_of_nonneg_left h6.2 (by omega)
theorem qko (r l i : Int) : -1 ≤ qkn r l i ∧ qkn r l i ≤ 1000 := by
  unfold qkn
  cases h : idOk r l i
  · simp
  · have := iw h; have := qgr h
    simp; omega
theorem qkp {r l i : Int} (h : idOk r l i = true) : IntKind.wrap .i64 (IntKind.wrap .i64 (r * (16 : Int)) + IntKind.wrap .i64 (i * qk3 l)) = qkn r l i := by
  have h1 := iw h; have h2 := qgr h
  rw [qk8 (x := r * 16) (by omega) (by omega), qk8 (x := i * qk3 l) (by omega) (by omega), qk8 (by omega) (by omega)]
  simp [qkn, h]
theorem qcq (k : Nat) (hk : 2000000 ≤ k) (a0 : Int) (a1 : Int) (a2 : Int) : go (k + 3) spec_StartOf [(.agg [(.int .i64 (a0)), (.int .i64 (a1)), (.int .i64 (a2))])] = some [.int .i64 (qkn a0 a1 a2)] := by
  rw [qf4]
  simp (disch := omega) only [qai, nth0, nth1, nth2, nth3, bit, qc1, qc2, qdd, qdi, qdj, qdk, qdl, qdm, qdn, qdo, qc3, qc4, qc5, qc6, qc7, qc8, qc9, qda, qdb, qdc, qde, qdf, qdg, qdh, qky, qkx, qkz, qjb, qjk, qjm, qgx, qak, qku, nI, qdt, qdr, Bool.not_true, Bool.not_false, Bool.and_true, Bool.true_and, Bool.and_false, Bool.false_and, Bool.or_true, Bool.true_or, Bool.or_false, Bool.false_or, beq_self_eq_true, dTT, dFF, dT, dF, bigI, big0, qja, qk8, qk9, List.length_set, List.length_replicate, Int.toNat_natCast, qcz, qc0, imax, imin, qcm, qcs]
  cases h : idOk a0 a1 a2
  · simp [qkn, h]
  · rw [qkp h]; rfl
theorem qay (k : Nat) (hk : 2000000 ≤ k) (a0 : Int) (a1 : Int) (a2 : Int) : go (k + 4) impl_StartOf [(.agg [(.int .i64 (a0)), (.int .i64 (a1)), (.int .i64 (a2))])] = some [.int .i64 (qkn a0 a1 a2)] := by
  rw [qec]
  simp (disch := omega) only [qai, nth0, nth1, nth2, nth3, bit, qc1, qc2, qdd, qdi, qdj, qdk, qdl, qdm, qdn, qdo, qc3, qc4, qc5, qc6, qc7, qc8, qc9, qda, qdb, qdc, qde, qdf, qdg, qdh, qky, qkx, qkz, qjb, qjk, qjm, qgx, qak, qku, nI, qdt, qdr, Bool.not_true, Bool.not_false, Bool.and_true, Bool.true_and, Bool.and_false, Bool.false_and, Bool.or_true, Bool.true_or, Bool.or_false, Bool.false_or, beq_self_eq_true, dTT, dFF, dT, dF, bigI, big0, qja, qk8, qk9, List.length_set, List.length_replicate, Int.toNat_natCast, qcz, qc0, imax, imin, qas, qa1]
  cases h : idOk a0 a1 a2
  · simp [qkn, h]
  · rw [qkp h]; rfl
theorem qgf (r l i : Int) : IntKind.wrap .i64 (qkn r l i + qk3 l) = qkn r l i + qk3 l := by
  have h1 := qko r l i; have h2 := qk5 l
  exact qk8 (by omega) (by omega)
theorem qcv (k : Nat) (hk : 2000000 ≤ k) (a0 : Int) (a1 : Int) (a2 : Int) : go (k + 4) spec_l04End [(.agg [(.int .i64 (a0)), (.int .i64 (a1)), (.int .i64 (a2))])] = some [.int .i64 (qkn a0 a1 a2 + qk3 a1)] := by
  rw [qga]
  simp (disch := omega) only [qai, nth0, nth1, nth2, nth3, bit, qc1, qc2, qdd, qdi, qdj, qdk, qdl, qdm, qdn, qdo, qc3, qc4, qc5, qc6, qc7, qc8, qc9, qda, qdb, qdc, qde, qdf, qdg, qdh, qky, qkx, qkz, qjb, qjk, qjm, qgx, qak, qku, nI, qdt, qdr, Bool.not_true, Bool.not_false, Bool.and_true, Bool.true_and, Bool.and_false, Bool.false_and, Bool.or_true, Bool.true_or, Bool.or_false, Bool.false_or, beq_self_eq_true, dTT, dFF, dT, dF, bigI, big0, qja, qk8, qk9, List.length_set, List.length_replicate, Int.toNat_natCast, qcz, qc0, imax, imin, qcq, qcs, qgf]
theorem qa5 (k : Nat) (hk : 2000000 ≤ k) (a0 : Int) (a1 : Int) (a2 : Int) : go (k + 5) impl_endOf [(.agg [(.int .i64 (a0)), (.int .i64 (a1)), (.int .i64 (a2))])] = some [.int .i64 (qkn a0 a1 a2 + qk3 a1)] := by
  rw [qel]
  simp (disch := omega) only [qai, nth0, nth1, nth2, nth3, bit, qc1, qc2, qdd, qdi, qdj, qdk, qdl, qdm, qdn, qdo, qc3, qc4, qc5, qc6, qc7, qc8, qc9, qda, qdb, qdc, qde, qdf, qdg, qdh, qky, qkx, qkz, qjb, qjk, qjm, qgx, qak, qku, nI, qdt, qdr, Bool.not_true, Bool.not_false, Bool.and_true, Bool.true_and, Bool.and_false, Bool.false_and, Bool.or_true, Bool.true_or, Bool.or_false, Bool.false_or, beq_self_eq_true, dTT, dFF, dT, dF, bigI, big0, qja, qk8, qk9, List.length_set, List.length_replicate, Int.toNat_natCast, qcz, qc0, imax, imin, qay, qa1, qgf]
abbrev Cell := Int × Int × Int
def qi3 (roots : Int) : Int → List Cell → Bool
  | pos, [] => inR roots 1 8 && decide (pos = roots * 16)
  | pos, x :: rest => idOk x.1 x.2.1 x.2.2 && (decide (qkn x.1 x.2.1 x.2.2 = pos) && qi3 roots (qkn x.1 x.2.1 x.2.2 + qk3 x.2.1) rest)
theorem qi4 (roots pos : Int) : cond (inR roots 1 8) (some [D.bool (decide (pos = IntKind.wrap .i64 (roots * (16 : Int))))]) (some [D.bool false]) = some [D.bool (qi3 roots pos [])] := by
  unfold qi3
  cases h : inR roots 1 8
  · rfl
  · simp only [inR, Bool.and_eq_true, decide_eq_true_eq] at h
    rw [qk8 (by omega) (by omega)]; rfl
theorem qiq (k : Nat) (hk : 2000000 ≤ k) (fu : List (Nat × Nat)) (z : Bool) (l : List Cell) (roots : Int) (hl : (l.length : Int) ≤ 1048576) : ∀ (n i : Nat) (pos : Int), i ≤ l.length → l.length - i < n →
    lp (k + 4) spec_MeshOk [] fu 3 (n) (qka pos (i : Int) z l roots) = some [.bool (qi3 roots pos (l.drop i))]
  | 0, i, pos, hi, hn => by omega
  | n + 1, i, pos, hi, hn => by
    rw [qhx]
    by_cases h : i < l.length
    · rw [qd1 h zz3]
      simp (disch := omega) only [qai, nth0, nth1, nth2, nth3, bit, qc1, qc2, qdd, qdi, qdj, qdk, qdl, qdm, qdn, qdo, qc3, qc4, qc5, qc6, qc7, qc8, qc9, qda, qdb, qdc, qde, qdf, qdg, qdh, qky, qkx, qkz, qjb, qjk, qjm, qgx, qak, qku, nI, qdt, qdr, Bool.not_true, Bool.not_false, Bool.and_true, Bool.true_and, Bool.and_false, Bool.false_and, Bool.or_true, Bool.true_or, Bool.or_false, Bool.false_or, beq_self_eq_true, dTT, dFF, dT, dF, bigI, big0, qja, qk8, qk9, List.length_set, List.length_replicate, Int.toNat_natCast, qcz, qc0, imax, imin, qcm, qcq, qcv, qi3]
      rw [qiq k hk fu z l roots hl n (i + 1) _ (by omega) (by omega)]
      simp only [qdu, qdv, Bool.and_assoc]
    · rw [List.drop_of_length_le (by omega)]
      simp (disch := omega) only [qai, nth0, nth1, nth2, nth3, bit, qc1, qc2, qdd, qdi, qdj, qdk, qdl, qdm, qdn, qdo, qc3, qc4, qc5, qc6, qc7, qc8, qc9, qda, qdb, qdc, qde, qdf, qdg, qdh, qky, qkx, qkz, qjb, qjk, qjm, qgx, qak, qku, nI, qdt, qdr, Bool.not_true, Bool.not_false, Bool.and_true, Bool.true_and, Bool.and_false, Bool.false_and, Bool.or_true, Bool.true_or, Bool.or_false, Bool.false_or, beq_self_eq_true, dTT, dFF, dT, dF, bigI, big0, qja, qk8, qk9, List.length_set, List.length_replicate, Int.toNat_natCast, qcz, qc0, imax, imin, qcu]
      exact qi4 roots pos
theorem qco (k : Nat) (hk : 2000000 ≤ k) (a0 : Int) (a1z : Bool) (a1 : List (Int × Int × Int)) (hl : (a1.length : Int) ≤ 1048576) : go (k + 5) spec_MeshOk [(.agg [(.int .i64 (a0)), (.arr false (a1z) (.r3 (a1)))])] = some [.bool (qi3 a0 0 a1)] := by
  rw [qf2]
  exact qiq k hk _ _ a1 a0 hl _ 0 0 (by omega) (by omega)
theorem qib (k : Nat) (hk : 2000000 ≤ k) (fu : List (Nat × Nat)) (z : Bool) (l : List Cell) (roots : Int) (hl : (l.length : Int) ≤ 1048576) : ∀ (n i : Nat) (pos : Int), i ≤ l.length → l.length - i < n →
    lp (k + 5) impl_MeshOk [] fu 3 (n) (qjr pos (l.length : Int) (i : Int) z l roots) = some [.bool (qi3 roots pos (l.drop i))]
  | 0, i, pos, hi, hn => by omega
  | n + 1, i, pos, hi, hn => by
    rw [qhd]
    by_cases h : i < l.length
    · rw [qd1 h zz3]
      simp (disch := omega) only [qai, nth0, nth1, nth2, nth3, bit, qc1, qc2, qdd, qdi, qdj, qdk, qdl, qdm, qdn, qdo, qc3, qc4, qc5, qc6, qc7, qc8, qc9, qda, qdb, qdc, qde, qdf, qdg, qdh, qky, qkx, qkz, qjb, qjk, qjm, qgx, qak, qku, nI, qdt, qdr, Bool.not_true, Bool.not_false, Bool.and_true, Bool.true_and, Bool.and_false, Bool.false_and, Bool.or_true, Bool.true_or, Bool.or_false, Bool.false_or, beq_self_eq_true, dTT, dFF, dT, dF, bigI, big0, qja, qk8, qk9, List.length_set, List.length_replicate, Int.toNat_natCast, qcz, qc0, imax, imin, qas, qay, qa5, qi3]
      rw [qib k hk fu z l roots hl n (i + 1) _ (by omega) (by omega)]
      simp only [qdu, qdv, Bool.and_assoc]
    · rw [List.drop_of_length_le (by omega)]
      simp (disch := omega) only [qai, nth0, nth1, nth2, nth3, bit, qc1, qc2, qdd, qdi, qdj, qdk, qdl, qdm, qdn, qdo, qc3, qc4, qc5, qc6, qc7, qc8, qc9, qda, qdb, qdc, qde, qdf, qdg, qdh, qky, qkx, qkz, qjb, qjk, qjm, qgx, qak, qku, nI, qdt, qdr, Bool.not_true, Bool.not_false, Bool.and_true, Bool.true_and, Bool.and_false, Bool.false_and, Bool.or_true, Bool.true_or, Bool.or_false, Bool.false_or, beq_self_eq_true, dTT, dFF, dT, dF, bigI, big0, qja, qk8, qk9, List.length_set, List.length_replicate, Int.toNat_natCast, qcz, qc0, imax, imin, qbi]
      exact qi4 roots pos
theorem qav (k : Nat) (hk : 2000000 ≤ k) (a0 : Int) (a1z : Bool) (a1 : List (Int × Int × Int)) (hl : (a1.length : Int) ≤ 1048576) : go (k + 6) impl_MeshOk [(.agg [(.int .i64 (a0)), (.arr false (a1z) (.r3 (a1)))])] = some [.bool (qi3 a0 0 a1)] := by
  rw [qd8]
  exact qib k hk _ _ a1 a0 hl _ 0 0 (by omega) (by omega)
end Go.Proofs.YtjfjniebmdafeaaDoor
end
section
namespace Go.Proofs.YtjfjniebmdafeaaDoor
open Go.Ev
def An1 : Ann := ⟨lookK keepL, lookM modeL, lookI inlL, fun _ => none, lookM giveL⟩
noncomputable def go1 (k f : Nat) (ds : List D) : Option (List D) := ev Tryd.prog An1 k f ds
noncomputable def lp1 (k f : Nat) (md : List D) (fu : List (Nat × Nat)) (tgt n : Nat) (s : St) : Option (List D) := loopAt Tryd.prog An1 k f md fu tgt n s
theorem qev (k : Nat) (a b c : Int) : go1 (k + 1) impl_within [(.int .i64 (a)), (.int .i64 (b)), (.int .i64 (c))] =
 cond (decide (b ≤ a))
 (some [(.bool (decide (a ≤ c)))])
 (some [(.bool (false))]) := by kernel_rfl
theorem qep (k : Nat) (a : Int) : go1 (k + 1) impl_isLevel [(.int .i64 (a))] =
 (go1 k impl_within [(.int .i64 (a)), (.int .i64 (0 : Int)), (.int .i64 ((4 : Int)))]).bind fun r0 =>
 some [(.bool (bit (nth r0 0)))] := by kernel_rfl
theorem qd6 (k : Nat) (a0 a1 a2 : Int) : go1 (k + 1) impl_IdOk [(.agg [(.int .i64 (a0)), (.int .i64 (a1)), (.int .i64 (a2))])] =
 (go1 k impl_within [(.int .i64 (a0)), (.int .i64 (0 : Int)), (.int .i64 ((7 : Int)))]).bind fun r0 =>
 cond (bit (nth r0 0))
 ((go1 k impl_isLevel [(.int .i64 (a1))]).bind fun r1 =>
 cond (bit (nth r1 0))
 (cond (decide ((0 : Int) ≤ a1))
 ((go1 k impl_within [(.int .i64 (a2)), (.int .i64 (0 : Int)), (.int .i64 (IntKind.wrap .i64 (IntKind.wrap .i64 ((1 : Int) * (2 : Int) ^ shiftN .i64 a1) - (1 : Int))))]).bind fun r2 =>
 some [(.bool (bit (nth r2 0)))])
 (none))
 (some [(.bool (false))]))
 (some [(.bool (false))]) := by kernel_rfl
theorem qei (k : Nat) (a : Int) : go1 (k + 1) impl_WidthOf [(.int .i64 (a))] =
 (go1 k impl_isLevel [(.int .i64 (a))]).bind fun r0 =>
 cond (!bit (nth r0 0))
 (some [(.int .i64 (0 : Int))])
 (cond (decide ((0 : Int) ≤ a))
 (some [(.int .i64 (Int.fdiv (16 : Int) ((2 : Int) ^ shiftN .i64 a)))])
 (none)) := by kernel_rfl
theorem qed (k : Nat) (a0 a1 a2 : Int) : go1 (k + 1) impl_StartOf [(.agg [(.int .i64 (a0)), (.int .i64 (a1)), (.int .i64 (a2))])] =
 (go1 k impl_IdOk [(.agg [(.int .i64 (a0)), (.int .i64 (a1)), (.int .i64 (a2))])]).bind fun r0 =>
 cond (!bit (nth r0 0))
 (some [(.int .i64 ((-1 : Int)))])
 ((go1 k impl_WidthOf [(.int .i64 (a1))]).bind fun r1 =>
 some [(.int .i64 (IntKind.wrap .i64 (IntKind.wrap .i64 (a0 * (16 : Int)) + IntKind.wrap .i64 (a2 * D.toInt (nth r1 0)))))]) := by kernel_rfl
theorem qem (k : Nat) (a0 a1 a2 : Int) : go1 (k + 1) impl_endOf [(.agg [(.int .i64 (a0)), (.int .i64 (a1)), (.int .i64 (a2))])] =
 (go1 k impl_StartOf [(.agg [(.int .i64 (a0)), (.int .i64 (a1)), (.int .i64 (a2))])]).bind fun r0 =>
 (go1 k impl_WidthOf [(.int .i64 (a1))]).bind fun r1 =>
 some [(.int .i64 (IntKind.wrap .i64 (D.toInt (nth r0 0) + D.toInt (nth r1 0))))] := by kernel_rfl
theorem qd9 (k : Nat) (a0 : Int) (a1z : Bool) (a1 : List (Int × Int × Int)) : go1 (k + 1) impl_MeshOk [(.agg [(.int .i64 (a0)), (.arr false (a1z) (.r3 (a1)))])] =
 lp1 k impl_MeshOk [] [] 3 k (qjr (0 : Int) (nI (List.length a1)) (0 : Int) a1z a1 a0) := by kernel_rfl
theorem qhe (k n : Nat) (fu : List (Nat × Nat)) (x0 x1 x2 : Int) (z3 : Bool) (l4 : List (Int × Int × Int)) (x5 : Int) : lp1 k impl_MeshOk [] fu 3 (n + 1) (qjr x0 x1 x2 z3 l4 x5) =
 cond (decide (x2 < x1))
 (cond (decide ((0 : Int) ≤ x2) && decide (x2 < nI (List.length l4)))
 ((go1 k impl_IdOk [(.agg [(.int .i64 (Prod.fst (List.getD l4 (Int.toNat x2) zz3))), (.int .i64 (Prod.fst (Prod.snd (List.getD l4 (Int.toNat x2) zz3)))), (.int .i64 (Prod.snd (Prod.snd (List.getD l4 (Int.toNat x2) zz3))))])]).bind fun r0 =>
 cond (!bit (nth r0 0))
 (some [(.bool (false))])
 ((go1 k impl_StartOf [(.agg [(.int .i64 (Prod.fst (List.getD l4 (Int.toNat x2) zz3))), (.int .i64 (Prod.fst (Prod.snd (List.getD l4 (Int.toNat x2) zz3)))), (.int .i64 (Prod.snd (Prod.snd (List.getD l4 (Int.toNat x2) zz3))))])]).bind fun r1 =>
 cond (!decide (D.toInt (nth r1 0) = x0))
 (some [(.bool (false))])
 ((go1 k impl_endOf [(.agg [(.int .i64 (Prod.fst (List.getD l4 (Int.toNat x2) zz3))), (.int .i64 (Prod.fst (Prod.snd (List.getD l4 (Int.toNat x2) zz3)))), (.int .i64 (Prod.snd (Prod.snd (List.getD l4 (Int.toNat x2) zz3))))])]).bind fun r2 =>
 lp1 k impl_MeshOk [] fu 3 n (qjr (D.toInt (nth r2 0)) x1 (IntKind.wrap .i64 (x2 + (1 : Int))) z3 l4 x5))))
 (none))
 ((go1 k impl_within [(.int .i64 (x5)), (.int .i64 ((1 : Int))), (.int .i64 ((8 : Int)))]).bind fun r3 =>
 cond (bit (nth r3 0))
 (some [(.bool (decide (x0 = IntKind.wrap .i64 (x5 * (16 : Int)))))])
 (some [(.bool (false))])) := by kernel_rfl
end Go.Proofs.YtjfjniebmdafeaaDoor
end
section
namespace Go.Proofs.YtjfjniebmdafeaaDoor
open Go.Ev
theorem qbj (k : Nat) (hk : 2000000 ≤ k) (a : Int) (b : Int) (c : Int) : go1 (k + 1) impl_within [(.int .i64 (a)), (.int .i64 (b)), (.int .i64 (c))] = some [.bool (inR a b c)] := by
  rw [qev]; unfold inR; cases decide (b ≤ a) <;> rfl
theorem qbb (k : Nat) (hk : 2000000 ≤ k) (a : Int) : go1 (k + 2) impl_isLevel [(.int .i64 (a))] = some [.bool (inR a 0 4)] := by
  rw [qep]
  simp (disch := omega) only [qai, nth0, nth1, nth2, nth3, bit, qc1, qc2, qdd, qdi, qdj, qdk, qdl, qdm, qdn, qdo, qc3, qc4, qc5, qc6, qc7, qc8, qc9, qda, qdb, qdc, qde, qdf, qdg, qdh, qky, qkx, qkz, qjb, qjk, qjm, qgx, qak, qku, nI, qdt, qdr, Bool.not_true, Bool.not_false, Bool.and_true, Bool.true_and, Bool.and_false, Bool.false_and, Bool.or_true, Bool.true_or, Bool.or_false, Bool.false_or, beq_self_eq_true, dTT, dFF, dT, dF, bigI, big0, qja, qk8, qk9, List.length_set, List.length_replicate, Int.toNat_natCast, qcz, qc0, imax, imin, qbj]
theorem qat (k : Nat) (hk : 2000000 ≤ k) (a0 : Int) (a1 : Int) (a2 : Int) : go1 (k + 3) impl_IdOk [(.agg [(.int .i64 (a0)), (.int .i64 (a1)), (.int .i64 (a2))])] = some [.bool (idOk a0 a1 a2)] := by
  rw [qd6]
  simp (disch := omega) only [qai, nth0, nth1, nth2, nth3, bit, qc1, qc2, qdd, qdi, qdj, qdk, qdl, qdm, qdn, qdo, qc3, qc4, qc5, qc6, qc7, qc8, qc9, qda, qdb, qdc, qde, qdf, qdg, qdh, qky, qkx, qkz, qjb, qjk, qjm, qgx, qak, qku, nI, qdt, qdr, Bool.not_true, Bool.not_false, Bool.and_true, Bool.true_and, Bool.and_false, Bool.false_and, Bool.or_true, Bool.true_or, Bool.or_false, Bool.false_or, beq_self_eq_true, dTT, dFF, dT, dF, bigI, big0, qja, qk8, qk9, List.length_set, List.length_replicate, Int.toNat_natCast, qcz, qc0, imax, imin, qbj, qbb]
  unfold idOk
  cases h1 : inR a0 0 7 <;> cases h2 : inR a1 0 4 <;> simp only [qdt, qdr, Bool.true_and, Bool.false_and, Bool.and_false]
  have := lev0 h2
  have := qjj h2
  rw [pw h2, qk8 (x := pow2 a1 - 1) (by omega) (by omega)]
  rw [show decide ((0 : Int) ≤ a1) = true by simp; omega, qdt]
  have e : inR a2 0 (pow2 a1 - 1) = (decide (0 ≤ a2) && decide (a2 < pow2 a1)) := by
    unfold inR; rw [Bool.eq_iff_iff]; simp only [Bool.and_eq_true, decide_eq_true_eq]; omega
  rw [e]
theorem qa2 (k : Nat) (hk : 2000000 ≤ k) (a : Int) : go1 (k + 3) impl_WidthOf [(.int .i64 (a))] = some [.int .i64 (qk3 a)] := by
  rw [qei]
  simp (disch := omega) only [qai, nth0, nth1, nth2, nth3, bit, qc1, qc2, qdd, qdi, qdj, qdk, qdl, qdm, qdn, qdo, qc3, qc4, qc5, qc6, qc7, qc8, qc9, qda, qdb, qdc, qde, qdf, qdg, qdh, qky, qkx, qkz, qjb, qjk, qjm, qgx, qak, qku, nI, qdt, qdr, Bool.not_true, Bool.not_false, Bool.and_true, Bool.true_and, Bool.and_false, Bool.false_and, Bool.or_true, Bool.true_or, Bool.or_false, Bool.false_or, beq_self_eq_true, dTT, dFF, dT, dF, bigI, big0, qja, qk8, qk9, List.length_set, List.length_replicate, Int.toNat_natCast, qcz, qc0, imax, imin, qbb, qk3]
  cases h2 : inR a 0 4
  · simp
  · rcases lev h2 with rfl | rfl | rfl | rfl | rfl <;> simp [qk9, sh0, sh1, sh2, sh3, sh4, p20, p21, p22, p23, p24] <;> decide
theorem qaz (k : Nat) (hk : 2000000 ≤ k) (a0 : Int) (a1 : Int) (a2 : Int) : go1 (k + 4) impl_StartOf [(.agg [(.int .i64 (a0)), (.int .i64 (a1)), (.int .i64 (a2))])] = some [.int .i64 (qkn a0 a1 a2)] := by
  rw [qed]
  simp (disch := omega) only [qai, nth0, nth1, nth2, nth3, bit, qc1, qc2, qdd, qdi, qdj, qdk, qdl, qdm, qdn, qdo, qc3, qc4, qc5, qc6, qc7, qc8, qc9, qda, qdb, qdc, qde, qdf, qdg, qdh, qky, qkx, qkz, qjb, qjk, qjm, qgx, qak, qku, nI, qdt, qdr, Bool.not_true, Bool.not_false, Bool.and_true, Bool.true_and, Bool.and_false, Bool.false_and, Bool.or_true, Bool.true_or, Bool.or_false, Bool.false_or, beq_self_eq_true, dTT, dFF, dT, dF, bigI, big0, qja, qk8, qk9, List.length_set, List.length_replicate, Int.toNat_natCast, qcz, qc0, imax, imin, qat, qa2]
  cases h : idOk a0 a1 a2
  · simp [qkn, h]
  · rw [qkp h]; rfl
theorem qa6 (k : Nat) (hk : 2000000 ≤ k) (a0 : Int) (a1 : Int) (a2 : Int) : go1 (k + 5) impl_endOf [(.agg [(.int .i64 (a0)), (.int .i64 (a1)), (.int .i64 (a2))])] = some [.int .i64 (qkn a0 a1 a2 + qk3 a1)] := by
  rw [qem]
  simp (disch := omega) only [qai, nth0, nth1, nth2, nth3, bit, qc1, qc2, qdd, qdi, qdj, qdk, qdl, qdm, qdn, qdo, qc3, qc4, qc5, qc6, qc7, qc8, qc9, qda, qdb, qdc, qde, qdf, qdg, qdh, qky, qkx, qkz, qjb, qjk, qjm, qgx, qak, qku, nI, qdt, qdr, Bool.not_true, Bool.not_false, Bool.and_true, Bool.true_and, Bool.and_false, Bool.false_and, Bool.or_true, Bool.true_or, Bool.or_false, Bool.false_or, beq_self_eq_true, dTT, dFF, dT, dF, bigI, big0, qja, qk8, qk9, List.length_set, List.length_replicate, Int.toNat_natCast, qcz, qc0, imax, imin, qaz, qa2, qgf]
theorem qic (k : Nat) (hk : 2000000 ≤ k) (fu : List (Nat × Nat)) (z : Bool) (l : List Cell) (roots : Int) (hl : (l.length : Int) ≤ 1048576) : ∀ (n i : Nat) (pos : Int), i ≤ l.length → l.length - i < n →
    lp1 (k + 5) impl_MeshOk [] fu 3 (n) (qjr pos (l.length : Int) (i : Int) z l roots) = some [.bool (qi3 roots pos (l.drop i))]
  | 0, i, pos, hi, hn => by omega
  | n + 1, i, pos, hi, hn => by
    rw [qhe]
    by_cases h : i < l.length
    · rw [qd1 h zz3]
      simp (disch := omega) only [qai, nth0, nth1, nth2, nth3, bit, qc1, qc2, qdd, qdi, qdj, qdk, qdl, qdm, qdn, qdo, qc3, qc4, qc5, qc6, qc7, qc8, qc9, qda, qdb, qdc, qde, qdf, qdg, qdh, qky, qkx, qkz, qjb, qjk, qjm, qgx, qak, qku, nI, qdt, qdr, Bool.not_true, Bool.not_false, Bool.and_true, Bool.true_and, Bool.and_false, Bool.false_and, Bool.or_true, Bool.true_or, Bool.or_false, Bool.false_or, beq_self_eq_true, dTT, dFF, dT, dF, bigI, big0, qja, qk8, qk9, List.length_set, List.length_replicate, Int.toNat_natCast, qcz, qc0, imax, imin, qat, qaz, qa6, qi3]
      rw [qic k hk fu z l roots hl n (i + 1) _ (by omega) (by omega)]
      simp only [qdu, qdv, Bool.and_assoc]
    · rw [List.drop_of_length_le (by omega)]
      simp (disch := omega) only [qai, nth0, nth1, nth2, nth3, bit, qc1, qc2, qdd, qdi, qdj, qdk, qdl, qdm, qdn, qdo, qc3, qc4, qc5, qc6, qc7, qc8, qc9, qda, qdb, qdc, qde, qdf, qdg, qdh, qky, qkx, qkz, qjb, qjk, qjm, qgx, qak, qku, nI, qdt, qdr, Bool.not_true, Bool.not_false, Bool.and_true, Bool.true_and, Bool.and_false, Bool.false_and, Bool.or_true, Bool.true_or, Bool.or_false, Bool.false_or, beq_self_eq_true, dTT, dFF, dT, dF, bigI, big0, qja, qk8, qk9, List.length_set, List.length_replicate, Int.toNat_natCast, qcz, qc0, imax, imin, qbj]
      exact qi4 roots pos
theorem qaw (k : Nat) (hk : 2000000 ≤ k) (a0 : Int) (a1z : Bool) (a1 : List (Int × Int × Int)) (hl : (a1.length : Int) ≤ 1048576) : go1 (k + 6) impl_MeshOk [(.agg [(.int .i64 (a0)), (.arr false (a1z) (.r3 (a1)))])] = some [.bool (qi3 a0 0 a1)] := by
  rw [qd9]
  exact qic k hk _ _ a1 a0 hl _ 0 0 (by omega) (by omega)
end Go.Proofs.YtjfjniebmdafeaaDoor
end
section
namespace Go.Proofs.YtjfjniebmdafeaaDoor
open Go.Ev
theorem qds {α : Type} (a : Bool) (x y : α) : cond (!a) x y = cond a y x := by cases a <;> rfl
theorem qdq {α : Type} (a b : Bool) (x y : α) : cond a (cond b x y) y = cond (a && b) x y := by cases a <;> rfl
abbrev qh4 (l : List Cell) (i : Nat) : Int := (l.getD i zz3).2.1
def qaa (l : List Cell) : Prop := ∀ i, 0 ≤ qh4 l i ∧ qh4 l i ≤ 4
theorem qi7 : ∀ (l : List Cell) (r p : Int), qi3 r p l = true → ∀ i, 0 ≤ qh4 l i ∧ qh4 l i ≤ 4
  | [], r, p, h, i => by simp [qh4]
  | x :: l, r, p, h, i => by
    simp only [qi3, Bool.and_eq_true] at h
    cases i with
    | zero => have := lev0 (qgr h.1).2.2.1; simpa [qh4] using this
    | succ i => have := qi7 l r _ h.2.2 i; simpa [qh4] using this
def qk0 (l : List Cell) : Nat → Nat → Int
  | 0, _ => -1
  | n + 1, i => if 1 < qh4 l i - qh4 l (i + 1) ∨ qh4 l i - qh4 l (i + 1) < -1 then (i : Int) else qk0 l n (i + 1)
def unb (l : List Cell) : Int := qk0 l (l.length - 1) 0
theorem qa4 (k : Nat) (hk : 2000000 ≤ k) (a : Int) (h : -9223372036854775807 ≤ a) (h' : a ≤ 9223372036854775807) : go (k + 1) impl_absolute [(.int .i64 (a))] = some [.int .i64 (max (0 - a) a)] := by
  rw [qek]; simp (disch := omega) only [qai, nth0, nth1, nth2, nth3, bit, qc1, qc2, qdd, qdi, qdj, qdk, qdl, qdm, qdn, qdo, qc3, qc4, qc5, qc6, qc7, qc8, qc9, qda, qdb, qdc, qde, qdf, qdg, qdh, qky, qkx, qkz, qjb, qjk, qjm, qgx, qak, qku, nI, qdt, qdr, Bool.not_true, Bool.not_false, Bool.and_true, Bool.true_and, Bool.and_false, Bool.false_and, Bool.or_true, Bool.true_or, Bool.or_false, Bool.false_or, beq_self_eq_true, dTT, dFF, dT, dF, bigI, big0, qja, qk8, qk9, List.length_set, List.length_replicate, Int.toNat_natCast, qcz, qc0, imax, imin]
theorem qit (k : Nat) (hk : 2000000 ≤ k) (fu : List (Nat × Nat)) (z : Bool) (l : List Cell) (r : Int) (hl : (l.length : Int) ≤ 1048576) (hv : qaa l) : ∀ (n i : Nat), i ≤ l.length → l.length - 1 - i < n →
    lp k spec_l05First [] fu 2 (n) (qkd (i : Int) z l r) = some [.int .i64 (qk0 l (l.length - 1 - i) i)]
  | 0, i, hi, hn => by omega
  | n + 1, i, hi, hn => by
    rw [qh0]
    by_cases h : i + 1 < l.length
    · have e := qit k hk fu z l r hl hv n (i + 1) (by omega) (by omega)
      have h1 := hv i; have h2 := hv (i + 1)
      simp only [qh4] at h1 h2
      simp (disch := omega) only [qai, nth0, nth1, nth2, nth3, bit, qc1, qc2, qdd, qdi, qdj, qdk, qdl, qdm, qdn, qdo, qc3, qc4, qc5, qc6, qc7, qc8, qc9, qda, qdb, qdc, qde, qdf, qdg, qdh, qky, qkx, qkz, qjb, qjk, qjm, qgx, qak, qku, nI, qdt, qdr, Bool.not_true, Bool.not_false, Bool.and_true, Bool.true_and, Bool.and_false, Bool.false_and, Bool.or_true, Bool.true_or, Bool.or_false, Bool.false_or, beq_self_eq_true, dTT, dFF, dT, dF, bigI, big0, qja, qk8, qk9, List.length_set, List.length_replicate, Int.toNat_natCast, qcz, qc0, imax, imin, e]
      rw [show l.length - 1 - i = (l.length - 1 - (i + 1)) + 1 by omega, qk0]
      simp only [qh4]
      by_cases g : 1 < (l.getD i zz3).2.1 - (l.getD (i + 1) zz3).2.1
      · simp (disch := omega) only [qai, nth0, nth1, nth2, nth3, bit, qc1, qc2, qdd, qdi, qdj, qdk, qdl, qdm, qdn, qdo, qc3, qc4, qc5, qc6, qc7, qc8, qc9, qda, qdb, qdc, qde, qdf, qdg, qdh, qky, qkx, qkz, qjb, qjk, qjm, qgx, qak, qku, nI, qdt, qdr, Bool.not_true, Bool.not_false, Bool.and_true, Bool.true_and, Bool.and_false, Bool.false_and, Bool.or_true, Bool.true_or, Bool.or_false, Bool.false_or, beq_self_eq_true, dTT, dFF, dT, dF, bigI, big0, qja, qk8, qk9, List.length_set, List.length_replicate, Int.toNat_natCast, qcz, qc0, imax, imin]; rw [if_pos (Or.inl g)]
      · by_cases g2 : (l.getD i zz3).2.1 - (l.getD (i + 1) zz3).2.1 < -1
        · simp (disch := omega) only [qai, nth0, nth1, nth2, nth3, bit, qc1, qc2, qdd, qdi, qdj, qdk, qdl, qdm, qdn, qdo, qc3, qc4, qc5, qc6, qc7, qc8, qc9, qda, qdb, qdc, qde, qdf, qdg, qdh, qky, qkx, qkz, qjb, qjk, qjm, qgx, qak, qku, nI, qdt, qdr, Bool.not_true, Bool.not_false, Bool.and_true, Bool.true_and, Bool.and_false, Bool.false_and, Bool.or_true, Bool.true_or, Bool.or_false, Bool.false_or, beq_self_eq_true, dTT, dFF, dT, dF, bigI, big0, qja, qk8, qk9, List.length_set, List.length_replicate, Int.toNat_natCast, qcz, qc0, imax, imin]; rw [if_pos (Or.inr g2)]
        · simp (disch := omega) only [qai, nth0, nth1, nth2, nth3, bit, qc1, qc2, qdd, qdi, qdj, qdk, qdl, qdm, qdn, qdo, qc3, qc4, qc5, qc6, qc7, qc8, qc9, qda, qdb, qdc, qde, qdf, qdg, qdh, qky, qkx, qkz, qjb, qjk, qjm, qgx, qak, qku, nI, qdt, qdr, Bool.not_true, Bool.not_false, Bool.and_true, Bool.true_and, Bool.and_false, Bool.false_and, Bool.or_true, Bool.true_or, Bool.or_false, Bool.false_or, beq_self_eq_true, dTT, dFF, dT, dF, bigI, big0, qja, qk8, qk9, List.length_set, List.length_replicate, Int.toNat_natCast, qcz, qc0, imax, imin]; rw [if_neg (not_or.2 ⟨g, g2⟩)]
    · simp (disch := omega) only [qai, nth0, nth1, nth2, nth3, bit, qc1, qc2, qdd, qdi, qdj, qdk, qdl, qdm, qdn, qdo, qc3, qc4, qc5, qc6, qc7, qc8, qc9, qda, qdb, qdc, qde, qdf, qdg, qdh, qky, qkx, qkz, qjb, qjk, qjm, qgx, qak, qku, nI, qdt, qdr, Bool.not_true, Bool.not_false, Bool.and_true, Bool.true_and, Bool.and_false, Bool.false_and, Bool.or_true, Bool.true_or, Bool.or_false, Bool.false_or, beq_self_eq_true, dTT, dFF, dT, dF, bigI, big0, qja, qk8, qk9, List.length_set, List.length_replicate, Int.toNat_natCast, qcz, qc0, imax, imin]
      rw [show l.length - 1 - i = 0 by omega]; rfl
theorem qcw (k : Nat) (hk : 2000000 ≤ k) (a0 : Int) (a1z : Bool) (a1 : List (Int × Int × Int)) (hl : (a1.length : Int) ≤ 1048576) (hv : qaa a1) : go (k + 1) spec_l05First [(.agg [(.int .i64 (a0)), (.arr false (a1z) (.r3 (a1)))])] = some [.int .i64 (unb a1)] := by
  rw [qgb]
  exact qit k hk [] a1z a1 a0 hl hv _ 0 (by omega) (by omega)
theorem qie (k : Nat) (hk : 2000000 ≤ k) (fu : List (Nat × Nat)) (z : Bool) (l : List Cell) (r : Int) (hl : (l.length : Int) ≤ 1048576) (hv : qaa l) : ∀ (n i : Nat), i ≤ l.length → l.length - 1 - i < n →
    lp (k + 1) impl_Mesh_unbalanced [] fu 2 (n) (qjs ((l.length : Int) - 1) (i : Int) z l r) = some [.int .i64 (qk0 l (l.length - 1 - i) i)]
  | 0, i, hi, hn => by omega
  | n + 1, i, hi, hn => by
    rw [qhf]
    by_cases h : i + 1 < l.length
    · have e := qie k hk fu z l r hl hv n (i + 1) (by omega) (by omega)
      have h1 := hv i; have h2 := hv (i + 1)
      simp only [qh4] at h1 h2
      simp (disch := omega) only [qai, nth0, nth1, nth2, nth3, bit, qc1, qc2, qdd, qdi, qdj, qdk, qdl, qdm, qdn, qdo, qc3, qc4, qc5, qc6, qc7, qc8, qc9, qda, qdb, qdc, qde, qdf, qdg, qdh, qky, qkx, qkz, qjb, qjk, qjm, qgx, qak, qku, nI, qdt, qdr, Bool.not_true, Bool.not_false, Bool.and_true, Bool.true_and, Bool.and_false, Bool.false_and, Bool.or_true, Bool.true_or, Bool.or_false, Bool.false_or, beq_self_eq_true, dTT, dFF, dT, dF, bigI, big0, qja, qk8, qk9, List.length_set, List.length_replicate, Int.toNat_natCast, qcz, qc0, imax, imin, e, qa4]
      rw [show l.length - 1 - i = (l.length - 1 - (i + 1)) + 1 by omega, qk0]
      simp only [qh4]
      by_cases g : 1 < (l.getD i zz3).2.1 - (l.getD (i + 1) zz3).2.1
      · simp (disch := omega) only [qai, nth0, nth1, nth2, nth3, bit, qc1, qc2, qdd, qdi, qdj, qdk, qdl, qdm, qdn, qdo, qc3, qc4, qc5, qc6, qc7, qc8, qc9, qda, qdb, qdc, qde, qdf, qdg, qdh, qky, qkx, qkz, qjb, qjk, qjm, qgx, qak, qku, nI, qdt, qdr, Bool.not_true, Bool.not_false, Bool.and_true, Bool.true_and, Bool.and_false, Bool.false_and, Bool.or_true, Bool.true_or, Bool.or_false, Bool.false_or, beq_self_eq_true, dTT, dFF, dT, dF, bigI, big0, qja, qk8, qk9, List.length_set, List.length_replicate, Int.toNat_natCast, qcz, qc0, imax, imin]; rw [if_pos (Or.inl g)]
      · by_cases g2 : (l.getD i zz3).2.1 - (l.getD (i + 1) zz3).2.1 < -1
        · simp (disch := omega) only [qai, nth0, nth1, nth2, nth3, bit, qc1, qc2, qdd, qdi, qdj, qdk, qdl, qdm, qdn, qdo, qc3, qc4, qc5, qc6, qc7, qc8, qc9, qda, qdb, qdc, qde, qdf, qdg, qdh, qky, qkx, qkz, qjb, qjk, qjm, qgx, qak, qku, nI, qdt, qdr, Bool.not_true, Bool.not_false, Bool.and_true, Bool.true_and, Bool.and_false, Bool.false_and, Bool.or_true, Bool.true_or, Bool.or_false, Bool.false_or, beq_self_eq_true, dTT, dFF, dT, dF, bigI, big0, qja, qk8, qk9, List.length_set, List.length_replicate, Int.toNat_natCast, qcz, qc0, imax, imin]; rw [if_pos (Or.inr g2)]
        · simp (disch := omega) only [qai, nth0, nth1, nth2, nth3, bit, qc1, qc2, qdd, qdi, qdj, qdk, qdl, qdm, qdn, qdo, qc3, qc4, qc5, qc6, qc7, qc8, qc9, qda, qdb, qdc, qde, qdf, qdg, qdh, qky, qkx, qkz, qjb, qjk, qjm, qgx, qak, qku, nI, qdt, qdr, Bool.not_true, Bool.not_false, Bool.and_true, Bool.true_and, Bool.and_false, Bool.false_and, Bool.or_true, Bool.true_or, Bool.or_false, Bool.false_or, beq_self_eq_true, dTT, dFF, dT, dF, bigI, big0, qja, qk8, qk9, List.length_set, List.length_replicate, Int.toNat_natCast, qcz, qc0, imax, imin]; rw [if_neg (not_or.2 ⟨g, g2⟩)]
    · simp (disch := omega) only [qai, nth0, nth1, nth2, nth3, bit, qc1, qc2, qdd, qdi, qdj, qdk, qdl, qdm, qdn, qdo, qc3, qc4, qc5, qc6, qc7, qc8, qc9, qda, qdb, qdc, qde, qdf, qdg, qdh, qky, qkx, qkz, qjb, qjk, qjm, qgx, qak, qku, nI, qdt, qdr, Bool.not_true, Bool.not_false, Bool.and_true, Bool.true_and, Bool.and_false, Bool.false_and, Bool.or_true, Bool.true_or, Bool.or_false, Bool.false_or, beq_self_eq_true, dTT, dFF, dT, dF, bigI, big0, qja, qk8, qk9, List.length_set, List.length_replicate, Int.toNat_natCast, qcz, qc0, imax, imin]
      rw [show l.length - 1 - i = 0 by omega]; rfl
theorem qbh (k : Nat) (hk : 2000000 ≤ k) (a0 : Int) (a1z : Bool) (a1 : List (Int × Int × Int)) (hl : (a1.length : Int) ≤ 1048576) (hv : qaa a1) : go (k + 2) impl_Mesh_unbalanced [(.agg [(.int .i64 (a0)), (.arr false (a1z) (.r3 (a1)))])] = some [.int .i64 (unb a1)] := by
  rw [qea]
  simp (disch := omega) only [qai, nth0, nth1, nth2, nth3, bit, qc1, qc2, qdd, qdi, qdj, qdk, qdl, qdm, qdn, qdo, qc3, qc4, qc5, qc6, qc7, qc8, qc9, qda, qdb, qdc, qde, qdf, qdg, qdh, qky, qkx, qkz, qjb, qjk, qjm, qgx, qak, qku, nI, qdt, qdr, Bool.not_true, Bool.not_false, Bool.and_true, Bool.true_and, Bool.and_false, Bool.false_and, Bool.or_true, Bool.true_or, Bool.or_false, Bool.false_or, beq_self_eq_true, dTT, dFF, dT, dF, bigI, big0, qja, qk8, qk9, List.length_set, List.length_replicate, Int.toNat_natCast, qcz, qc0, imax, imin]
  exact qie k hk [] a1z a1 a0 hl hv _ 0 (by omega) (by omega)
def qaf (r : Int) (l : List Cell) : Bool := qi3 r 0 l && decide (unb l < 0)
theorem qcn (k : Nat) (hk : 2000000 ≤ k) (a0 : Int) (a1z : Bool) (a1 : List (Int × Int × Int)) (hl : (a1.length : Int) ≤ 1048576) : go (k + 6) spec_IsBalanced [(.agg [(.int .i64 (a0)), (.arr false (a1z) (.r3 (a1)))])] = some [.bool (qaf a0 a1)] := by
  rw [qf1]
  simp (disch := omega) only [qai, nth0, nth1, nth2, nth3, bit, qc1, qc2, qdd, qdi, qdj, qdk, qdl, qdm, qdn, qdo, qc3, qc4, qc5, qc6, qc7, qc8, qc9, qda, qdb, qdc, qde, qdf, qdg, qdh, qky, qkx, qkz, qjb, qjk, qjm, qgx, qak, qku, nI, qdt, qdr, Bool.not_true, Bool.not_false, Bool.and_true, Bool.true_and, Bool.and_false, Bool.false_and, Bool.or_true, Bool.true_or, Bool.or_false, Bool.false_or, beq_self_eq_true, dTT, dFF, dT, dF, bigI, big0, qja, qk8, qk9, List.length_set, List.length_replicate, Int.toNat_natCast, qcz, qc0, imax, imin, qco]
  unfold qaf
  cases h : qi3 a0 0 a1
  · rfl
  · have hv : qaa a1 := qi7 _ _ _ h
    simp (disch := omega) only [qai, nth0, nth1, nth2, nth3, bit, qc1, qc2, qdd, qdi, qdj, qdk, qdl, qdm, qdn, qdo, qc3, qc4, qc5, qc6, qc7, qc8, qc9, qda, qdb, qdc, qde, qdf, qdg, qdh, qky, qkx, qkz, qjb, qjk, qjm, qgx, qak, qku, nI, qdt, qdr, Bool.not_true, Bool.not_false, Bool.and_true, Bool.true_and, Bool.and_false, Bool.false_and, Bool.or_true, Bool.true_or, Bool.or_false, Bool.false_or, beq_self_eq_true, dTT, dFF, dT, dF, bigI, big0, qja, qk8, qk9, List.length_set, List.length_replicate, Int.toNat_natCast, qcz, qc0, imax, imin, qcw k hk]
    rw [qcw _ (by omega) _ _ _ hl hv]; simp (disch := omega) only [qai, nth0, nth1, nth2, nth3, bit, qc1, qc2, qdd, qdi, qdj, qdk, qdl, qdm, qdn, qdo, qc3, qc4, qc5, qc6, qc7, qc8, qc9, qda, qdb, qdc, qde, qdf, qdg, qdh, qky, qkx, qkz, qjb, qjk, qjm, qgx, qak, qku, nI, qdt, qdr, Bool.not_true, Bool.not_false, Bool.and_true, Bool.true_and, Bool.and_false, Bool.false_and, Bool.or_true, Bool.true_or, Bool.or_false, Bool.false_or, beq_self_eq_true, dTT, dFF, dT, dF, bigI, big0, qja, qk8, qk9, List.length_set, List.length_replicate, Int.toNat_natCast, qcz, qc0, imax, imin]
theorem qau (k : Nat) (hk : 2000000 ≤ k) (a0 : Int) (a1z : Bool) (a1 : List (Int × Int × Int)) (hl : (a1.length : Int) ≤ 1048576) : go (k + 7) impl_IsBalanced [(.agg [(.int .i64 (a0)), (.arr false (a1z) (.r3 (a1)))])] = some [.bool (qaf a0 a1)] := by
  rw [qd7]
  simp (disch := omega) only [qai, nth0, nth1, nth2, nth3, bit, qc1, qc2, qdd, qdi, qdj, qdk, qdl, qdm, qdn, qdo, qc3, qc4, qc5, qc6, qc7, qc8, qc9, qda, qdb, qdc, qde, qdf, qdg, qdh, qky, qkx, qkz, qjb, qjk, qjm, qgx, qak, qku, nI, qdt, qdr, Bool.not_true, Bool.not_false, Bool.and_true, Bool.true_and, Bool.and_false, Bool.false_and, Bool.or_true, Bool.true_or, Bool.or_false, Bool.false_or, beq_self_eq_true, dTT, dFF, dT, dF, bigI, big0, qja, qk8, qk9, List.length_set, List.length_replicate, Int.toNat_natCast, qcz, qc0, imax, imin, qav]
  unfold qaf
  cases h : qi3 a0 0 a1
  · rfl
  · have hv : qaa a1 := qi7 _ _ _ h
    rw [qdt, qbh _ (by omega) _ _ _ hl hv]; simp (disch := omega) only [qai, nth0, nth1, nth2, nth3, bit, qc1, qc2, qdd, qdi, qdj, qdk, qdl, qdm, qdn, qdo, qc3, qc4, qc5, qc6, qc7, qc8, qc9, qda, qdb, qdc, qde, qdf, qdg, qdh, qky, qkx, qkz, qjb, qjk, qjm, qgx, qak, qku, nI, qdt, qdr, Bool.not_true, Bool.not_false, Bool.and_true, Bool.true_and, Bool.and_false, Bool.false_and, Bool.or_true, Bool.true_or, Bool.or_false, Bool.false_or, beq_self_eq_true, dTT, dFF, dT, dF, bigI, big0, qja, qk8, qk9, List.length_set, List.length_replicate, Int.toNat_natCast, qcz, qc0, imax, imin]
def isum : List Int → Int
  | [] => 0
  | x :: l => x + isum l
theorem qg2 {B : Int} : ∀ (l : List Int), (∀ x ∈ l, 0 ≤ x ∧ x ≤ B) → 0 ≤ isum l ∧ isum l ≤ B * l.length
  | [], h => by simp [isum]
  | x :: l, h => by
    have := qg2 l fun y hy => h y (by simp [hy])
    have h2 := h x (by simp)
    simp only [isum, List.length_cons, Int.natCast_add, Int.natCast_one, Int.mul_add, Int.mul_one]; omega
theorem qg1 {B : Int} (hB : 0 ≤ B) : ∀ (l : List Int) (i : Nat), (∀ x ∈ l, 0 ≤ x ∧ x ≤ B) → 0 ≤ isum (l.drop i) ∧ isum (l.drop i) ≤ isum l
  | [], i, h => by simp [isum]
  | x :: l, 0, h => by have := qg2 (x :: l) h; simp only [List.drop_zero]; omega
  | x :: l, i + 1, h => by
    have := qg1 hB l i fun y hy => h y (by simp [hy])
    have h2 := h x (by simp)
    simp only [isum, List.drop_succ_cons]; omega
theorem qiu (k : Nat) (hk : 2000000 ≤ k) (fu : List (Nat × Nat)) (z : Bool) (l : List Int) (hl : (l.length : Int) ≤ 1048576) (hb : ∀ x ∈ l, 0 ≤ x ∧ x ≤ 1000000000000) : ∀ (n i : Nat) (s : Int), i ≤ l.length → l.length - i < n → s + isum (l.drop i) = isum l → 0 ≤ s →
    lp k spec_l07Sum [] fu 3 (n) (qke s (i : Int) z l) = some [.int .i64 (isum l)]
  | 0, i, s, hi, hn, hs, h0 => by omega
  | n + 1, i, s, hi, hn, hs, h0 => by
    rw [qh1]
    by_cases h : i < l.length
    · rw [qd1 h 0] at hs
      simp only [isum] at hs
      have h1 := qg2 l hb
      have h2 := qg1 (by omega) l (i + 1) hb
      have h3 := hb _ (qgp h 0)
      simp (disch := omega) only [qai, nth0, nth1, nth2, nth3, bit, qc1, qc2, qdd, qdi, qdj, qdk, qdl, qdm, qdn, qdo, qc3, qc4, qc5, qc6, qc7, qc8, qc9, qda, qdb, qdc, qde, qdf, qdg, qdh, qky, qkx, qkz, qjb, qjk, qjm, qgx, qak, qku, nI, qdt, qdr, Bool.not_true, Bool.not_false, Bool.and_true, Bool.true_and, Bool.and_false, Bool.false_and, Bool.or_true, Bool.true_or, Bool.or_false, Bool.false_or, beq_self_eq_true, dTT, dFF, dT, dF, bigI, big0, qja, qk8, qk9, List.length_set, List.length_replicate, Int.toNat_natCast, qcz, qc0, imax, imin]
      exact qiu k hk fu z l hl hb n (i + 1) _ (by omega) (by omega) (by omega) (by omega)
    · rw [List.drop_of_length_le (by omega)] at hs
      simp only [isum] at hs
      simp (disch := omega) only [qai, nth0, nth1, nth2, nth3, bit, qc1, qc2, qdd, qdi, qdj, qdk, qdl, qdm, qdn, qdo, qc3, qc4, qc5, qc6, qc7, qc8, qc9, qda, qdb, qdc, qde, qdf, qdg, qdh, qky, qkx, qkz, qjb, qjk, qjm, qgx, qak, qku, nI, qdt, qdr, Bool.not_true, Bool.not_false, Bool.and_true, Bool.true_and, Bool.and_false, Bool.false_and, Bool.or_true, Bool.true_or, Bool.or_false, Bool.false_or, beq_self_eq_true, dTT, dFF, dT, dF, bigI, big0, qja, qk8, qk9, List.length_set, List.length_replicate, Int.toNat_natCast, qcz, qc0, imax, imin]
      rw [show s = isum l by omega]
theorem qcx (k : Nat) (hk : 2000000 ≤ k) (az : Bool) (a : List Int) (hl : (a.length : Int) ≤ 1048576) (hb : ∀ x ∈ a, 0 ≤ x ∧ x ≤ 1000000000000) : go (k + 1) spec_l07Sum [(.arr false (az) (.ints .i64 (a)))] = some [.int .i64 (isum a)] := by
  rw [qgc]
  exact qiu k hk [] az a hl hb _ 0 0 (by omega) (by omega) (by simp) (by omega)
theorem qid (k : Nat) (hk : 2000000 ≤ k) (fu : List (Nat × Nat)) (z : Bool) (l : List Int) (hl : (l.length : Int) ≤ 1048576) (hb : ∀ x ∈ l, 0 ≤ x ∧ x ≤ 1000000000000) : ∀ (n i : Nat) (s : Int), i ≤ l.length → l.length - i < n → s + isum (l.drop i) = isum l → 0 ≤ s →
    lp k impl_sum [] fu 3 (n) (qju s (l.length : Int) (i : Int) z l) = some [.int .i64 (isum l)]
  | 0, i, s, hi, hn, hs, h0 => by omega
  | n + 1, i, s, hi, hn, hs, h0 => by
    rw [qhh]
    by_cases h : i < l.length
    · rw [qd1 h 0] at hs
      simp only [isum] at hs
      have h1 := qg2 l hb
      have h2 := qg1 (by omega) l (i + 1) hb
      have h3 := hb _ (qgp h 0)
      simp (disch := omega) only [qai, nth0, nth1, nth2, nth3, bit, qc1, qc2, qdd, qdi, qdj, qdk, qdl, qdm, qdn, qdo, qc3, qc4, qc5, qc6, qc7, qc8, qc9, qda, qdb, qdc, qde, qdf, qdg, qdh, qky, qkx, qkz, qjb, qjk, qjm, qgx, qak, qku, nI, qdt, qdr, Bool.not_true, Bool.not_false, Bool.and_true, Bool.true_and, Bool.and_false, Bool.false_and, Bool.or_true, Bool.true_or, Bool.or_false, Bool.false_or, beq_self_eq_true, dTT, dFF, dT, dF, bigI, big0, qja, qk8, qk9, List.length_set, List.length_replicate, Int.toNat_natCast, qcz, qc0, imax, imin]
      exact qid k hk fu z l hl hb n (i + 1) _ (by omega) (by omega) (by omega) (by omega)
    · rw [List.drop_of_length_le (by omega)] at hs
      simp only [isum] at hs
      simp (disch := omega) only [qai, nth0, nth1, nth2, nth3, bit, qc1, qc2, qdd, qdi, qdj, qdk, qdl, qdm, qdn, qdo, qc3, qc4, qc5, qc6, qc7, qc8, qc9, qda, qdb, qdc, qde, qdf, qdg, qdh, qky, qkx, qkz, qjb, qjk, qjm, qgx, qak, qku, nI, qdt, qdr, Bool.not_true, Bool.not_false, Bool.and_true, Bool.true_and, Bool.and_false, Bool.false_and, Bool.or_true, Bool.true_or, Bool.or_false, Bool.false_or, beq_self_eq_true, dTT, dFF, dT, dF, bigI, big0, qja, qk8, qk9, List.length_set, List.length_replicate, Int.toNat_natCast, qcz, qc0, imax, imin]
      rw [show s = isum l by omega]
theorem qbg (k : Nat) (hk : 2000000 ≤ k) (az : Bool) (a : List Int) (hl : (a.length : Int) ≤ 1048576) (hb : ∀ x ∈ a, 0 ≤ x ∧ x ≤ 1000000000000) : go (k + 1) impl_sum [(.arr false (az) (.ints .i64 (a)))] = some [.int .i64 (isum a)] := by
  rw [qet]
  exact qid k hk [] az a hl hb _ 0 0 (by omega) (by omega) (by simp) (by omega)
def qiz : List Int → List Int → Bool
  | m :: ms, t :: ts => inR m 0 10000000 && (inR t 0 (1000 * m) && qiz ms ts)
  | _, _ => true
theorem qi1 : ∀ (ms ts : List Int), ms.length = ts.length → qiz ms ts = true → (∀ x ∈ ms, 0 ≤ x ∧ x ≤ 10000000) ∧ (∀ x ∈ ts, 0 ≤ x ∧ x ≤ 10000000000)
  | [], ts, hl, h => by cases ts <;> simp_all
  | m :: ms, [], hl, h => by simp at hl
  | m :: ms, t :: ts, hl, h => by
    simp only [qiz, Bool.and_eq_true, qgu] at h
    have := qi1 ms ts (by simpa using hl) h.2.2
    refine ⟨fun x hx => ?_, fun x hx => ?_⟩
    · rcases List.mem_cons.1 hx with rfl | hx
      · exact h.1
      · exact this.1 x hx
    · rcases List.mem_cons.1 hx with rfl | hx
      · omega
      · exact this.2 x hx
theorem qi0 : ∀ (ms ts : List Int), ms.length = ts.length → qiz ms ts = true → ∀ i, 0 ≤ ms.getD i 0 ∧ ms.getD i 0 ≤ 10000000 ∧ 0 ≤ ts.getD i 0 ∧ ts.getD i 0 ≤ 1000 * ms.getD i 0
  | [], ts, hl, h, i => by cases ts <;> simp_all
  | m :: ms, [], hl, h, i => by simp at hl
  | m :: ms, t :: ts, hl, h, i => by
    simp only [qiz, Bool.and_eq_true, qgu] at h
    cases i with
    | zero => simp; omega
    | succ i => have := qi0 ms ts (by simpa using hl) h.2.2 i; simpa using this
def qag : List Int → Bool
  | [] => true
  | b :: l => inR b 0 1000000 && qag l
theorem qah : ∀ (l : List Int), qag l = true → ∀ x ∈ l, 0 ≤ x ∧ x ≤ 1000000
  | [], h, x, hx => by cases hx
  | b :: l, h, x, hx => by
    simp only [qag, Bool.and_eq_true, qgu] at h
    rcases List.mem_cons.1 hx with rfl | hx
    · exact h.1
    · exact qah l h.2 x hx
def stOk (r : Int) (l : List Cell) (m t b : List Int) : Bool :=
  qaf r l && (decide (m.length = l.length) && (decide (t.length = l.length) && (decide ((b.length : Int) = r) && (qiz m t && (qag b && decide (isum m ≤ 10000000))))))
theorem qis (k : Nat) (hk : 2000000 ≤ k) (fu : List (Nat × Nat)) (r : Int) (z1 z2 z3 z4 : Bool) (l : List Cell) (m t b : List Int) (hm : (m.length : Int) ≤ 1048576) (hb : (b.length : Int) ≤ 1048576) (hx : ∀ x ∈ m, 0 ≤ x ∧ x ≤ 10000000) : ∀ (n i : Nat), i ≤ b.length → b.length - i < n →
    lp (k + 6) spec_StateOk [] fu 9 (n) (qkc (i : Int) z1 l z2 m z3 t z4 b r) = some [.bool (qag (b.drop i) && decide (isum m ≤ 10000000))]
  | 0, i, hi, hn => by omega
  | n + 1, i, hi, hn => by
    rw [qhz]
    by_cases h : i < b.length
    · rw [qd1 h 0]
      have e := qis k hk fu r z1 z2 z3 z4 l m t b hm hb hx n (i + 1) (by omega) (by omega)
      simp (disch := omega) only [qai, nth0, nth1, nth2, nth3, bit, qc1, qc2, qdd, qdi, qdj, qdk, qdl, qdm, qdn, qdo, qc3, qc4, qc5, qc6, qc7, qc8, qc9, qda, qdb, qdc, qde, qdf, qdg, qdh, qky, qkx, qkz, qjb, qjk, qjm, qgx, qak, qku, nI, qdt, qdr, Bool.not_true, Bool.not_false, Bool.and_true, Bool.true_and, Bool.and_false, Bool.false_and, Bool.or_true, Bool.true_or, Bool.or_false, Bool.false_or, beq_self_eq_true, dTT, dFF, dT, dF, bigI, big0, qja, qk8, qk9, List.length_set, List.length_replicate, Int.toNat_natCast, qcz, qc0, imax, imin, qcu, qag, e, qdu, Bool.and_assoc]
    · rw [List.drop_of_length_le (by omega)]
      have hx' : ∀ x ∈ m, 0 ≤ x ∧ x ≤ 1000000000000 := fun x hh => by have := hx x hh; omega
      rw [show decide ((i : Int) < nI b.length) = false by apply dF; simp only [nI]; omega, qdr, qcx _ (by omega) _ _ hm hx']
      simp (disch := omega) only [qai, nth0, nth1, nth2, nth3, bit, qc1, qc2, qdd, qdi, qdj, qdk, qdl, qdm, qdn, qdo, qc3, qc4, qc5, qc6, qc7, qc8, qc9, qda, qdb, qdc, qde, qdf, qdg, qdh, qky, qkx, qkz, qjb, qjk, qjm, qgx, qak, qku, nI, qdt, qdr, Bool.not_true, Bool.not_false, Bool.and_true, Bool.true_and, Bool.and_false, Bool.false_and, Bool.or_true, Bool.true_or, Bool.or_false, Bool.false_or, beq_self_eq_true, dTT, dFF, dT, dF, bigI, big0, qja, qk8, qk9, List.length_set, List.length_replicate, Int.toNat_natCast, qcz, qc0, imax, imin, qag]
theorem qir (k : Nat) (hk : 2000000 ≤ k) (fu : List (Nat × Nat)) (r : Int) (z1 z2 z3 z4 : Bool) (l : List Cell) (m t b : List Int) (hm : (m.length : Int) ≤ 1048576) (ht : t.length = m.length) : ∀ (n i : Nat), i ≤ m.length → m.length - i < n →
    lp (k + 6) spec_StateOk [] fu 4 (n) (qkb (i : Int) z1 l z2 m z3 t z4 b r) = cond (qiz (m.drop i) (t.drop i)) (lp (k + 6) spec_StateOk [] fu 9 (k + 6) (qkc 0 z1 l z2 m z3 t z4 b r)) (some [.bool false])
  | 0, i, hi, hn => by omega
  | n + 1, i, hi, hn => by
    rw [qhy]
    by_cases h : i < m.length
    · rw [qd1 h 0, qd1 (l := t) (by omega : i < t.length) 0]
      have e := qir k hk fu r z1 z2 z3 z4 l m t b hm ht n (i + 1) (by omega) (by omega)
      by_cases h1 : inR (m.getD i 0) 0 10000000 = true
      · have h2 := qgu.1 h1
        simp (disch := omega) only [qai, nth0, nth1, nth2, nth3, bit, qc1, qc2, qdd, qdi, qdj, qdk, qdl, qdm, qdn, qdo, qc3, qc4, qc5, qc6, qc7, qc8, qc9, qda, qdb, qdc, qde, qdf, qdg, qdh, qky, qkx, qkz, qjb, qjk, qjm, qgx, qak, qku, nI, qdt, qdr, Bool.not_true, Bool.not_false, Bool.and_true, Bool.true_and, Bool.and_false, Bool.false_and, Bool.or_true, Bool.true_or, Bool.or_false, Bool.false_or, beq_self_eq_true, dTT, dFF, dT, dF, bigI, big0, qja, qk8, qk9, List.length_set, List.length_replicate, Int.toNat_natCast, qcz, qc0, imax, imin, qcu, qiz, e, h1, qds, qdq]
      · have h1 : inR (m.getD i 0) 0 10000000 = false := by simpa using h1
        simp (disch := omega) only [qai, nth0, nth1, nth2, nth3, bit, qc1, qc2, qdd, qdi, qdj, qdk, qdl, qdm, qdn, qdo, qc3, qc4, qc5, qc6, qc7, qc8, qc9, qda, qdb, qdc, qde, qdf, qdg, qdh, qky, qkx, qkz, qjb, qjk, qjm, qgx, qak, qku, nI, qdt, qdr, Bool.not_true, Bool.not_false, Bool.and_true, Bool.true_and, Bool.and_false, Bool.false_and, Bool.or_true, Bool.true_or, Bool.or_false, Bool.false_or, beq_self_eq_true, dTT, dFF, dT, dF, bigI, big0, qja, qk8, qk9, List.length_set, List.length_replicate, Int.toNat_natCast, qcz, qc0, imax, imin, qcu, qiz, h1]
    · rw [List.drop_of_length_le (by omega), List.drop_of_length_le (by omega)]
      simp (disch := omega) only [qai, nth0, nth1, nth2, nth3, bit, qc1, qc2, qdd, qdi, qdj, qdk, qdl, qdm, qdn, qdo, qc3, qc4, qc5, qc6, qc7, qc8, qc9, qda, qdb, qdc, qde, qdf, qdg, qdh, qky, qkx, qkz, qjb, qjk, qjm, qgx, qak, qku, nI, qdt, qdr, Bool.not_true, Bool.not_false, Bool.and_true, Bool.true_and, Bool.and_false, Bool.false_and, Bool.or_true, Bool.true_or, Bool.or_false, Bool.false_or, beq_self_eq_true, dTT, dFF, dT, dF, bigI, big0, qja, qk8, qk9, List.length_set, List.length_replicate, Int.toNat_natCast, qcz, qc0, imax, imin, qiz]
theorem qcr (k : Nat) (hk : 2000000 ≤ k) (a0 : Int) (a1z : Bool) (a1 : List (Int × Int × Int)) (a2z : Bool) (a2 : List Int) (a3z : Bool) (a3 : List Int) (a4z : Bool) (a4 : List Int) (hl : (a1.length : Int) ≤ 1048576) (hb : (a4.length : Int) ≤ 1048576) : go (k + 7) spec_StateOk [(.agg [(.int .i64 (a0)), (.arr false (a1z) (.r3 (a1))), (.arr false (a2z) (.ints .i64 (a2))), (.arr false (a3z) (.ints .i64 (a3))), (.arr false (a4z) (.ints .i64 (a4)))])] = some [.bool (stOk a0 a1 a2 a3 a4)] := by
  rw [qf5]
  simp (disch := omega) only [qai, nth0, nth1, nth2, nth3, bit, qc1, qc2, qdd, qdi, qdj, qdk, qdl, qdm, qdn, qdo, qc3, qc4, qc5, qc6, qc7, qc8, qc9, qda, qdb, qdc, qde, qdf, qdg, qdh, qky, qkx, qkz, qjb, qjk, qjm, qgx, qak, qku, nI, qdt, qdr, Bool.not_true, Bool.not_false, Bool.and_true, Bool.true_and, Bool.and_false, Bool.false_and, Bool.or_true, Bool.true_or, Bool.or_false, Bool.false_or, beq_self_eq_true, dTT, dFF, dT, dF, bigI, big0, qja, qk8, qk9, List.length_set, List.length_replicate, Int.toNat_natCast, qcz, qc0, imax, imin, qcn]
  unfold stOk
  cases qaf a0 a1
  · rfl
  by_cases h1 : a2.length = a1.length
  case neg => simp (disch := omega) only [qai, nth0, nth1, nth2, nth3, bit, qc1, qc2, qdd, qdi, qdj, qdk, qdl, qdm, qdn, qdo, qc3, qc4, qc5, qc6, qc7, qc8, qc9, qda, qdb, qdc, qde, qdf, qdg, qdh, qky, qkx, qkz, qjb, qjk, qjm, qgx, qak, qku, nI, qdt, qdr, Bool.not_true, Bool.not_false, Bool.and_true, Bool.true_and, Bool.and_false, Bool.false_and, Bool.or_true, Bool.true_or, Bool.or_false, Bool.false_or, beq_self_eq_true, dTT, dFF, dT, dF, bigI, big0, qja, qk8, qk9, List.length_set, List.length_replicate, Int.toNat_natCast, qcz, qc0, imax, imin]
  by_cases h2 : a3.length = a1.length
  case neg => simp (disch := omega) only [qai, nth0, nth1, nth2, nth3, bit, qc1, qc2, qdd, qdi, qdj, qdk, qdl, qdm, qdn, qdo, qc3, qc4, qc5, qc6, qc7, qc8, qc9, qda, qdb, qdc, qde, qdf, qdg, qdh, qky, qkx, qkz, qjb, qjk, qjm, qgx, qak, qku, nI, qdt, qdr, Bool.not_true, Bool.not_false, Bool.and_true, Bool.true_and, Bool.and_false, Bool.false_and, Bool.or_true, Bool.true_or, Bool.or_false, Bool.false_or, beq_self_eq_true, dTT, dFF, dT, dF, bigI, big0, qja, qk8, qk9, List.length_set, List.length_replicate, Int.toNat_natCast, qcz, qc0, imax, imin]
  by_cases h3 : (a4.length : Int) = a0
  case neg => simp (disch := omega) only [qai, nth0, nth1, nth2, nth3, bit, qc1, qc2, qdd, qdi, qdj, qdk, qdl, qdm, qdn, qdo, qc3, qc4, qc5, qc6, qc7, qc8, qc9, qda, qdb, qdc, qde, qdf, qdg, qdh, qky, qkx, qkz, qjb, qjk, qjm, qgx, qak, qku, nI, qdt, qdr, Bool.not_true, Bool.not_false, Bool.and_true, Bool.true_and, Bool.and_false, Bool.false_and, Bool.or_true, Bool.true_or, Bool.or_false, Bool.false_or, beq_self_eq_true, dTT, dFF, dT, dF, bigI, big0, qja, qk8, qk9, List.length_set, List.length_replicate, Int.toNat_natCast, qcz, qc0, imax, imin]
  simp (disch := omega) only [qai, nth0, nth1, nth2, nth3, bit, qc1, qc2, qdd, qdi, qdj, qdk, qdl, qdm, qdn, qdo, qc3, qc4, qc5, qc6, qc7, qc8, qc9, qda, qdb, qdc, qde, qdf, qdg, qdh, qky, qkx, qkz, qjb, qjk, qjm, qgx, qak, qku, nI, qdt, qdr, Bool.not_true, Bool.not_false, Bool.and_true, Bool.true_and, Bool.and_false, Bool.false_and, Bool.or_true, Bool.true_or, Bool.or_false, Bool.false_or, beq_self_eq_true, dTT, dFF, dT, dF, bigI, big0, qja, qk8, qk9, List.length_set, List.length_replicate, Int.toNat_natCast, qcz, qc0, imax, imin]
  refine Eq.trans (qir k hk [] a0 a1z a2z a3z a4z a1 a2 a3 a4 (by omega) (by omega) _ 0 (by omega) (by omega)) ?_
  simp only [List.drop_zero]
  cases h4 : qiz a2 a3
  · rfl
  · have hx := (qi1 a2 a3 (by omega) h4).1
    have e := qis k hk [] a0 a1z a2z a3z a4z a1 a2 a3 a4 (by omega) hb hx (k + 6) 0 (by omega) (by omega)
    simp only [List.drop_zero] at e
    simp only [qdt, Bool.true_and, dT (h1), dT (h2), dT (h3), decide_true]
    exact e
theorem qa9 (k : Nat) (hk : 2000000 ≤ k) (a : Int) : go (k + 2) impl_isBed [(.int .i64 (a))] = some [.bool (inR a 0 1000000)] := by
  rw [qen]; simp (disch := omega) only [qai, nth0, nth1, nth2, nth3, bit, qc1, qc2, qdd, qdi, qdj, qdk, qdl, qdm, qdn, qdo, qc3, qc4, qc5, qc6, qc7, qc8, qc9, qda, qdb, qdc, qde, qdf, qdg, qdh, qky, qkx, qkz, qjb, qjk, qjm, qgx, qak, qku, nI, qdt, qdr, Bool.not_true, Bool.not_false, Bool.and_true, Bool.true_and, Bool.and_false, Bool.false_and, Bool.or_true, Bool.true_or, Bool.or_false, Bool.false_or, beq_self_eq_true, dTT, dFF, dT, dF, bigI, big0, qja, qk8, qk9, List.length_set, List.length_replicate, Int.toNat_natCast, qcz, qc0, imax, imin, qbi]
theorem qa8 (k : Nat) (hk : 2000000 ≤ k) (a : Int) : go (k + 3) impl_State_hasCells_1 [(.int .i64 (a))] = some [.bool (!inR a 0 1000000)] := by
  rw [qeg]; simp (disch := omega) only [qai, nth0, nth1, nth2, nth3, bit, qc1, qc2, qdd, qdi, qdj, qdk, qdl, qdm, qdn, qdo, qc3, qc4, qc5, qc6, qc7, qc8, qc9, qda, qdb, qdc, qde, qdf, qdg, qdh, qky, qkx, qkz, qjb, qjk, qjm, qgx, qak, qku, nI, qdt, qdr, Bool.not_true, Bool.not_false, Bool.and_true, Bool.true_and, Bool.and_false, Bool.false_and, Bool.or_true, Bool.true_or, Bool.or_false, Bool.false_or, beq_self_eq_true, dTT, dFF, dT, dF, bigI, big0, qja, qk8, qk9, List.length_set, List.length_replicate, Int.toNat_natCast, qcz, qc0, imax, imin, qa9]
theorem qif (k : Nat) (hk : 2000000 ≤ k) (fu : List (Nat × Nat)) (z : Bool) (l : List Int) (hl : (l.length : Int) ≤ 1048576) : ∀ (n i : Nat), i ≤ l.length → l.length - i < n →
    ∃ j : Int, lp (k + 3) slices_IndexFunc_int_int [] fu 2 (n) (qj5 (l.length : Int) (i : Int) z l) = some [.int .i64 j] ∧ decide (0 ≤ j) = !qag (l.drop i)
  | 0, i, hi, hn => by omega
  | n + 1, i, hi, hn => by
    rw [qhs]
    by_cases h : i < l.length
    · rw [qd1 h 0]
      obtain ⟨j, e1, e2⟩ := qif k hk fu z l hl n (i + 1) (by omega) (by omega)
      simp (disch := omega) only [qai, nth0, nth1, nth2, nth3, bit, qc1, qc2, qdd, qdi, qdj, qdk, qdl, qdm, qdn, qdo, qc3, qc4, qc5, qc6, qc7, qc8, qc9, qda, qdb, qdc, qde, qdf, qdg, qdh, qky, qkx, qkz, qjb, qjk, qjm, qgx, qak, qku, nI, qdt, qdr, Bool.not_true, Bool.not_false, Bool.and_true, Bool.true_and, Bool.and_false, Bool.false_and, Bool.or_true, Bool.true_or, Bool.or_false, Bool.false_or, beq_self_eq_true, dTT, dFF, dT, dF, bigI, big0, qja, qk8, qk9, List.length_set, List.length_replicate, Int.toNat_natCast, qcz, qc0, imax, imin, qa8, qag, e1]
      cases inR (l.getD i 0) 0 1000000
      · exact ⟨i, rfl, by rw [dT (by omega)]; rfl⟩
      · exact ⟨j, rfl, by rw [e2]; rfl⟩
    · rw [List.drop_of_length_le (by omega)]
      simp (disch := omega) only [qai, nth0, nth1, nth2, nth3, bit, qc1, qc2, qdd, qdi, qdj, qdk, qdl, qdm, qdn, qdo, qc3, qc4, qc5, qc6, qc7, qc8, qc9, qda, qdb, qdc, qde, qdf, qdg, qdh, qky, qkx, qkz, qjb, qjk, qjm, qgx, qak, qku, nI, qdt, qdr, Bool.not_true, Bool.not_false, Bool.and_true, Bool.true_and, Bool.and_false, Bool.false_and, Bool.or_true, Bool.true_or, Bool.or_false, Bool.false_or, beq_self_eq_true, dTT, dFF, dT, dF, bigI, big0, qja, qk8, qk9, List.length_set, List.length_replicate, Int.toNat_natCast, qcz, qc0, imax, imin, qag]
      exact ⟨-1, rfl, rfl⟩
theorem qan (k : Nat) (hk : 2000000 ≤ k) (z : Bool) (l : List Int) (hl : (l.length : Int) ≤ 1048576) : go (k + 5) slices_ContainsFunc_int_int [.arr false z (.ints .i64 l), .fn impl_State_hasCells_1 []] = some [.bool (!qag l)] := by
  rw [qft, qfu]
  obtain ⟨j, e1, e2⟩ := qif k hk [] z l hl (k + 3) 0 (by omega) (by omega)
  have e1' := e1
  simp only [nI] at *
  rw [show ((0 : Nat) : Int) = 0 from rfl] at e1'
  rw [e1']
  simp (disch := omega) only [qai, nth0, nth1, nth2, nth3, bit, qc1, qc2, qdd, qdi, qdj, qdk, qdl, qdm, qdn, qdo, qc3, qc4, qc5, qc6, qc7, qc8, qc9, qda, qdb, qdc, qde, qdf, qdg, qdh, qky, qkx, qkz, qjb, qjk, qjm, qgx, qak, qku, nI, qdt, qdr, Bool.not_true, Bool.not_false, Bool.and_true, Bool.true_and, Bool.and_false, Bool.false_and, Bool.or_true, Bool.true_or, Bool.or_false, Bool.false_or, beq_self_eq_true, dTT, dFF, dT, dF, bigI, big0, qja, qk8, qk9, List.length_set, List.length_replicate, Int.toNat_natCast, qcz, qc0, imax, imin]
  rw [show decide ((0 : Int) ≤ j) = !qag l from e2]
theorem qh7 (k : Nat) (hk : 2000000 ≤ k) (fu : List (Nat × Nat)) (r : Int) (z1 z2 z3 z4 : Bool) (l : List Cell) (m t b : List Int) (hm : (m.length : Int) ≤ 1048576) (ht : t.length = m.length) (s : List D)
    (hs : qiz m t = true → go (k + 5) impl_sum [.arr false z2 (.ints .i64 m)] = some [.int .i64 (isum m)]) (P : Bool) : ∀ (n i : Nat), i ≤ m.length → m.length - i < n → (qiz (m.drop i) (t.drop i) = true → qiz m t = true) →
    lp (k + 5) impl_State_hasCells [] fu 5 (n) (qjt (m.length : Int) (i : Int) z1 l z2 m z3 t z4 b r) = some [.bool (qiz (m.drop i) (t.drop i) && decide (isum m ≤ 10000000))]
  | 0, i, hi, hn, hq => by omega
  | n + 1, i, hi, hn, hq => by
    rw [qhg]
    by_cases h : i < m.length
    · rw [qd1 h 0, qd1 (l := t) (by omega : i < t.length) 0] at hq ⊢
      by_cases h1 : inR (m.getD i 0) 0 10000000 = true
      · have h2 := qgu.1 h1
        by_cases h3 : inR (t.getD i 0) 0 (1000 * m.getD i 0) = true
        · have e := qh7 k hk fu r z1 z2 z3 z4 l m t b hm ht s hs P n (i + 1) (by omega) (by omega) (fun hh => hq (by simp only [qiz, h1, h3, hh, Bool.and_self]))
          simp (disch := omega) only [qai, nth0, nth1, nth2, nth3, bit, qc1, qc2, qdd, qdi, qdj, qdk, qdl, qdm, qdn, qdo, qc3, qc4, qc5, qc6, qc7, qc8, qc9, qda, qdb, qdc, qde, qdf, qdg, qdh, qky, qkx, qkz, qjb, qjk, qjm, qgx, qak, qku, nI, qdt, qdr, Bool.not_true, Bool.not_false, Bool.and_true, Bool.true_and, Bool.and_false, Bool.false_and, Bool.or_true, Bool.true_or, Bool.or_false, Bool.false_or, beq_self_eq_true, dTT, dFF, dT, dF, bigI, big0, qja, qk8, qk9, List.length_set, List.length_replicate, Int.toNat_natCast, qcz, qc0, imax, imin, qbi, qiz, e, h1, h3]
        · have h3 : inR (t.getD i 0) 0 (1000 * m.getD i 0) = false := by simpa using h3
          simp (disch := omega) only [qai, nth0, nth1, nth2, nth3, bit, qc1, qc2, qdd, qdi, qdj, qdk, qdl, qdm, qdn, qdo, qc3, qc4, qc5, qc6, qc7, qc8, qc9, qda, qdb, qdc, qde, qdf, qdg, qdh, qky, qkx, qkz, qjb, qjk, qjm, qgx, qak, qku, nI, qdt, qdr, Bool.not_true, Bool.not_false, Bool.and_true, Bool.true_and, Bool.and_false, Bool.false_and, Bool.or_true, Bool.true_or, Bool.or_false, Bool.false_or, beq_self_eq_true, dTT, dFF, dT, dF, bigI, big0, qja, qk8, qk9, List.length_set, List.length_replicate, Int.toNat_natCast, qcz, qc0, imax, imin, qbi, qiz, h1, h3]
      · have h1 : inR (m.getD i 0) 0 10000000 = false := by simpa using h1
        simp (disch := omega) only [qai, nth0, nth1, nth2, nth3, bit, qc1, qc2, qdd, qdi, qdj, qdk, qdl, qdm, qdn, qdo, qc3, qc4, qc5, qc6, qc7, qc8, qc9, qda, qdb, qdc, qde, qdf, qdg, qdh, qky, qkx, qkz, qjb, qjk, qjm, qgx, qak, qku, nI, qdt, qdr, Bool.not_true, Bool.not_false, Bool.and_true, Bool.true_and, Bool.and_false, Bool.false_and, Bool.or_true, Bool.true_or, Bool.or_false, Bool.false_or, beq_self_eq_true, dTT, dFF, dT, dF, bigI, big0, qja, qk8, qk9, List.length_set, List.length_replicate, Int.toNat_natCast, qcz, qc0, imax, imin, qbi, qiz, h1]
    · rw [List.drop_of_length_le (by omega), List.drop_of_length_le (by omega)] at hq ⊢
      have e := hs (hq rfl)
      simp (disch := omega) only [qai, nth0, nth1, nth2, nth3, bit, qc1, qc2, qdd, qdi, qdj, qdk, qdl, qdm, qdn, qdo, qc3, qc4, qc5, qc6, qc7, qc8, qc9, qda, qdb, qdc, qde, qdf, qdg, qdh, qky, qkx, qkz, qjb, qjk, qjm, qgx, qak, qku, nI, qdt, qdr, Bool.not_true, Bool.not_false, Bool.and_true, Bool.true_and, Bool.and_false, Bool.false_and, Bool.or_true, Bool.true_or, Bool.or_false, Bool.false_or, beq_self_eq_true, dTT, dFF, dT, dF, bigI, big0, qja, qk8, qk9, List.length_set, List.length_replicate, Int.toNat_natCast, qcz, qc0, imax, imin, qiz, e]
theorem qa7 (k : Nat) (hk : 2000000 ≤ k) (a0 : Int) (a1z : Bool) (a1 : List (Int × Int × Int)) (a2z : Bool) (a2 : List Int) (a3z : Bool) (a3 : List Int) (a4z : Bool) (a4 : List Int) (hl : (a1.length : Int) ≤ 1048576) (hb : (a4.length : Int) ≤ 1048576) : go (k + 6) impl_State_hasCells [(.agg [(.int .i64 (a0)), (.arr false (a1z) (.r3 (a1))), (.arr false (a2z) (.ints .i64 (a2))), (.arr false (a3z) (.ints .i64 (a3))), (.arr false (a4z) (.ints .i64 (a4)))])] = some [.bool (decide (a2.length = a1.length) && (decide (a3.length = a1.length) && (decide ((a4.length : Int) = a0) && (qiz a2 a3 && (qag a4 && decide (isum a2 ≤ 10000000))))))] := by
  rw [qef]
  by_cases h1 : a2.length = a1.length
  case neg => simp (disch := omega) only [qai, nth0, nth1, nth2, nth3, bit, qc1, qc2, qdd, qdi, qdj, qdk, qdl, qdm, qdn, qdo, qc3, qc4, qc5, qc6, qc7, qc8, qc9, qda, qdb, qdc, qde, qdf, qdg, qdh, qky, qkx, qkz, qjb, qjk, qjm, qgx, qak, qku, nI, qdt, qdr, Bool.not_true, Bool.not_false, Bool.and_true, Bool.true_and, Bool.and_false, Bool.false_and, Bool.or_true, Bool.true_or, Bool.or_false, Bool.false_or, beq_self_eq_true, dTT, dFF, dT, dF, bigI, big0, qja, qk8, qk9, List.length_set, List.length_replicate, Int.toNat_natCast, qcz, qc0, imax, imin]
  by_cases h2 : a3.length = a1.length
  case neg => simp (disch := omega) only [qai, nth0, nth1, nth2, nth3, bit, qc1, qc2, qdd, qdi, qdj, qdk, qdl, qdm, qdn, qdo, qc3, qc4, qc5, qc6, qc7, qc8, qc9, qda, qdb, qdc, qde, qdf, qdg, qdh, qky, qkx, qkz, qjb, qjk, qjm, qgx, qak, qku, nI, qdt, qdr, Bool.not_true, Bool.not_false, Bool.and_true, Bool.true_and, Bool.and_false, Bool.false_and, Bool.or_true, Bool.true_or, Bool.or_false, Bool.false_or, beq_self_eq_true, dTT, dFF, dT, dF, bigI, big0, qja, qk8, qk9, List.length_set, List.length_replicate, Int.toNat_natCast, qcz, qc0, imax, imin]
  by_cases h3 : (a4.length : Int) = a0
  case neg => simp (disch := omega) only [qai, nth0, nth1, nth2, nth3, bit, qc1, qc2, qdd, qdi, qdj, qdk, qdl, qdm, qdn, qdo, qc3, qc4, qc5, qc6, qc7, qc8, qc9, qda, qdb, qdc, qde, qdf, qdg, qdh, qky, qkx, qkz, qjb, qjk, qjm, qgx, qak, qku, nI, qdt, qdr, Bool.not_true, Bool.not_false, Bool.and_true, Bool.true_and, Bool.and_false, Bool.false_and, Bool.or_true, Bool.true_or, Bool.or_false, Bool.false_or, beq_self_eq_true, dTT, dFF, dT, dF, bigI, big0, qja, qk8, qk9, List.length_set, List.length_replicate, Int.toNat_natCast, qcz, qc0, imax, imin]
  simp (disch := omega) only [qai, nth0, nth1, nth2, nth3, bit, qc1, qc2, qdd, qdi, qdj, qdk, qdl, qdm, qdn, qdo, qc3, qc4, qc5, qc6, qc7, qc8, qc9, qda, qdb, qdc, qde, qdf, qdg, qdh, qky, qkx, qkz, qjb, qjk, qjm, qgx, qak, qku, nI, qdt, qdr, Bool.not_true, Bool.not_false, Bool.and_true, Bool.true_and, Bool.and_false, Bool.false_and, Bool.or_true, Bool.true_or, Bool.or_false, Bool.false_or, beq_self_eq_true, dTT, dFF, dT, dF, bigI, big0, qja, qk8, qk9, List.length_set, List.length_replicate, Int.toNat_natCast, qcz, qc0, imax, imin, qan]
  cases h5 : qag a4
  · cases qiz a2 a3 <;> rfl
  have e := qh7 k hk [] a0 a1z a2z a3z a4z a1 a2 a3 a4 (by omega) (by omega) [] (fun hm => by
    have hx := (qi1 a2 a3 (by omega) hm).1
    exact qbg _ (by omega) _ _ (by omega) (fun x hh => by have := hx x hh; omega)) true (k + 5) 0 (by omega) (by omega) (fun h => h)
  simp only [List.drop_zero] at e
  simp only [Bool.not_true, qdr, Bool.true_and]
  exact e
theorem qa0 (k : Nat) (hk : 2000000 ≤ k) (a0 : Int) (a1z : Bool) (a1 : List (Int × Int × Int)) (a2z : Bool) (a2 : List Int) (a3z : Bool) (a3 : List Int) (a4z : Bool) (a4 : List Int) (hl : (a1.length : Int) ≤ 1048576) (hb : (a4.length : Int) ≤ 1048576) : go (k + 8) impl_StateOk [(.agg [(.int .i64 (a0)), (.arr false (a1z) (.r3 (a1))), (.arr false (a2z) (.ints .i64 (a2))), (.arr false (a3z) (.ints .i64 (a3))), (.arr false (a4z) (.ints .i64 (a4)))])] = some [.bool (stOk a0 a1 a2 a3 a4)] := by
  rw [qee]
  simp (disch := omega) only [qai, nth0, nth1, nth2, nth3, bit, qc1, qc2, qdd, qdi, qdj, qdk, qdl, qdm, qdn, qdo, qc3, qc4, qc5, qc6, qc7, qc8, qc9, qda, qdb, qdc, qde, qdf, qdg, qdh, qky, qkx, qkz, qjb, qjk, qjm, qgx, qak, qku, nI, qdt, qdr, Bool.not_true, Bool.not_false, Bool.and_true, Bool.true_and, Bool.and_false, Bool.false_and, Bool.or_true, Bool.true_or, Bool.or_false, Bool.false_or, beq_self_eq_true, dTT, dFF, dT, dF, bigI, big0, qja, qk8, qk9, List.length_set, List.length_replicate, Int.toNat_natCast, qcz, qc0, imax, imin, qau, qa7]
  unfold stOk
  cases qaf a0 a1 <;> rfl
end Go.Proofs.YtjfjniebmdafeaaDoor
end
section
namespace Go.Proofs.YtjfjniebmdafeaaDoor
open Go.Ev
theorem qk4 {l : Int} (h : inR l 0 4 = true) : 1 ≤ qk3 l ∧ qk3 l ≤ 16 := by
  rcases lev h with rfl | rfl | rfl | rfl | rfl <;> decide
theorem qk2 {x : Cell} (h : idOk x.1 x.2.1 x.2.2 = true) : qkn x.1 x.2.1 x.2.2 = x.1 * 16 + x.2.2 * qk3 x.2.1 ∧ 0 ≤ x.2.2 * qk3 x.2.1 ∧ 1 ≤ qk3 x.2.1 := by
  have := qgr h
  exact ⟨by simp [qkn, h], (iw h).1, (qk4 this.2.2.1).1⟩
theorem qi5 : ∀ (l : List Cell) (r p : Int), qi3 r p l = true → 1 ≤ r ∧ r ≤ 8 ∧ p + l.length ≤ 16 * r ∧ (∀ i, i < l.length → 0 ≤ (l.getD i zz3).1 ∧ (l.getD i zz3).1 < r ∧ idOk (l.getD i zz3).1 (l.getD i zz3).2.1 (l.getD i zz3).2.2 = true) ∧ (l = [] → p = 16 * r)
  | [], r, p, h => by
    simp only [qi3, Bool.and_eq_true, qgu, decide_eq_true_eq] at h
    simp; omega
  | x :: l, r, p, h => by
    simp only [qi3, Bool.and_eq_true, decide_eq_true_eq] at h
    obtain ⟨h1, h2, h3⟩ := h
    have w := qk2 h1
    have ih := qi5 l r _ h3
    have ds := qgr h1
    refine ⟨ih.1, ih.2.1, by simp only [List.length_cons]; omega, fun i hi => ?_, by simp⟩
    cases i with
    | zero => simp only [List.getD_cons_zero]; refine ⟨by omega, by omega, h1⟩
    | succ i => simp only [List.getD_cons_succ]; exact ih.2.2.2.1 i (by simpa using hi)
theorem qi6 {l : List Cell} {r : Int} (h : qi3 r 0 l = true) : 1 ≤ l.length ∧ l.length ≤ 128 := by
  have f := qi5 l r 0 h
  cases l with
  | nil => have := f.2.2.2.2 rfl; omega
  | cons x l => simp only [List.length_cons] at f ⊢; omega
structure StF (r : Int) (l : List Cell) (m t b : List Int) : Prop where
  mesh : qi3 r 0 l = true
  bal : unb l < 0
  ml : m.length = l.length
  tl : t.length = l.length
  bl : (b.length : Int) = r
  mt : qiz m t = true
  bed : qag b = true
  sum : isum m ≤ 10000000
theorem stF {r : Int} {l : List Cell} {m t b : List Int} : stOk r l m t b = true ↔ StF r l m t b := by
  unfold stOk qaf
  simp only [Bool.and_eq_true, decide_eq_true_eq]
  exact ⟨fun h => ⟨h.1.1, h.1.2, h.2.1, h.2.2.1, h.2.2.2.1, h.2.2.2.2.1, h.2.2.2.2.2.1, h.2.2.2.2.2.2⟩, fun h => ⟨⟨h.mesh, h.bal⟩, h.ml, h.tl, h.bl, h.mt, h.bed, h.sum⟩⟩
section
variable {r : Int} {l : List Cell} {m t b : List Int}
theorem StF.len (F : StF r l m t b) : 1 ≤ l.length ∧ l.length ≤ 128 := qi6 F.mesh
theorem StF.rr (F : StF r l m t b) : 1 ≤ r ∧ r ≤ 8 := ⟨(qi5 l r 0 F.mesh).1, (qi5 l r 0 F.mesh).2.1⟩
theorem StF.lev (F : StF r l m t b) (i : Nat) : inR (l.getD i zz3).2.1 0 4 = true := by
  have := qi7 l r 0 F.mesh i
  simp only [qh4] at this
  rw [qgu]; exact this
theorem StF.at (F : StF r l m t b) (i : Nat) : 0 ≤ m.getD i 0 ∧ m.getD i 0 ≤ 10000000 ∧ 0 ≤ t.getD i 0 ∧ t.getD i 0 ≤ 1000 * m.getD i 0 := qi0 m t (by rw [F.ml, F.tl]) F.mt i
theorem StF.bedAt (F : StF r l m t b) (i : Nat) : 0 ≤ b.getD i 0 ∧ b.getD i 0 ≤ 1000000 := by
  by_cases h : i < b.length
  · exact qah b F.bed _ (qgp h 0)
  · rw [qgo (by omega)]; omega
theorem StF.mmem (F : StF r l m t b) : ∀ x ∈ m, 0 ≤ x ∧ x ≤ 1000000000000 := fun x hx => by have := (qi1 m t (by rw [F.ml, F.tl]) F.mt).1 x hx; omega
theorem StF.tmem (F : StF r l m t b) : ∀ x ∈ t, 0 ≤ x ∧ x ≤ 1000000000000 := fun x hx => by have := (qi1 m t (by rw [F.ml, F.tl]) F.mt).2 x hx; omega
end
end Go.Proofs.YtjfjniebmdafeaaDoor
end
section
namespace Go.Proofs.YtjfjniebmdafeaaDoor
open Go.RowKit Go.Lib Go.Ev Go.Shelf Go.Sort
theorem qjc : ∀ f g, An1.ext f = some g → ∀ ds rs, g ds = some rs → Contract Tryd.prog f (An1.mode f) ds rs := fun f g h => by cases h
theorem qg8 (r : Int) (z : Bool) (l : List Cell) (hl : (l.length : Int) ≤ 1048576) : Contract Tryd.prog 91 [] [.agg [.int .i64 r, .arr false z (.r3 l)]] [.bool (qi3 r 0 l)] := by
  have e : ev Tryd.prog An1 (2000000 + 6) 91 [.agg [.int .i64 r, .arr false z (.r3 l)]] = some [.bool (qi3 r 0 l)] := qaw 2000000 (by omega) r z l hl
  have h := ev_contract good qjc e
  exact h
theorem qaj {P : Program} {F : Nat} {ds : List D} {b : Bool} {w : World} {args : Array Value} {FF : Feet} (h : Contract P F [] ds [.bool b]) (hk : Kept w) (hr : RepDs w ds args.toList FF) (hs : Sep FF) (hn : ∀ x off, ¬ ownOf FF x off) : Calls P F args w fun e w' => e = .returned (.bool b) ∧ RowKit.Below w.heap.size w w' := by
  obtain ⟨fn, _, _, hc⟩ := h
  refine (hc w args FF hk (fun x _ off => hn x.1 off) hr hs).mono ?_
  rintro e w' ⟨outs, F', rfl, hl, hrep, _, hfr, _⟩
  have hm : ∀ (vs : List Value), muts ([] : List Bool) vs = [] := by
    intro vs
    induction vs with
    | nil => rfl
    | cons v vs ih => simp [muts, ih]
  rw [hm, List.append_nil] at hrep
  simp only [RepDs, RepD] at hrep
  obtain ⟨u, us, F1, F2, rfl, _, ⟨rfl, _⟩, rfl, _⟩ := hrep
  exact ⟨rfl, Fr.below (hfr.mono fun b off _ h => (hn b off h).elim)⟩
theorem Hid.mk' {p : Prop} (h : p) : Hid p := h
set_option maxHeartbeats 1000000 in
theorem qgj (r : Int) (a : Option Addr) (n c : Nat) (w : World) (hM : ∀ W, RowKit.Below w.heap.size w W → Calls Tryd.prog 91 #[.agg #[.int .i64 r, .slice a n c]] W fun e w' => e = .returned (.bool false) ∧ RowKit.Below W.heap.size W w') :
    Calls Tryd.prog 49 #[.agg #[.int .i64 r, .slice a n c]] w fun e w' => e = .returned (.string ⟨#[]⟩) ∧ RowKit.Below w.heap.size w w' := by
  have b0 : RowKit.Below w.heap.size w (w.alloc (.cells #[.int .i64 r, .slice a n c] 59)) := (RowKit.Below.refl _ w).alloc (Nat.le_refl _) _
  have hM' := hM _ b0
  clear hM
  go_enter Tryd.func49, Tryd.ntmps49
  go_wp2_with (go_at_call 91; refine hM'.mono ?_)
  rintro e W1 ⟨rfl, b1⟩
  go_wp2
  go_ret
  exact ⟨rfl, b0.trans (b1.mono b0.size)⟩
theorem qh2 {l : List Cell} {b : Addr} {w W wr : World} {N k : Nat}
    (hc : ∀ i, i < l.length → w.cell? (b.add (i * 3)) = some (.int .i64 (l.getD i zz3).1) ∧ w.cell? (b.add (i * 3 + 1)) = some (.int .i64 (l.getD i zz3).2.1) ∧ w.cell? (b.add (i * 3 + 2)) = some (.int .i64 (l.getD i zz3).2.2))
    (hs : w.heap.size < N) (h1 : RowKit.Below w.heap.size w W) (h2 : RowKit.Below N W wr) (hlt : k < l.length) :
    ∃ x0 x1 x2 Ab Ao, l.getD k zz3 = (x0, x1, x2) ∧ b.add (k * 3) = ⟨Ab, Ao, none⟩ ∧ Ab < w.heap.size ∧ wr.cell? ⟨Ab, Ao, none⟩ = some (.int .i64 x0) ∧ wr.cell? ⟨Ab, Ao + 1, none⟩ = some (.int .i64 x1) ∧ wr.cell? ⟨Ab, Ao + 2, none⟩ = some (.int .i64 x2) := by
  have hcc := hc k hlt
  have hbl : ∀ q, (b.add q).block < w.heap.size := fun q => by have := World.block_lt_of_cell? w (b.add (k * 3)) hcc.1; rw [Go.Ev.addr_block] at this ⊢; exact this
  have kp : ∀ q, wr.cell? (b.add q) = w.cell? (b.add q) := fun q => (h2.cell (p := b.add q) (Nat.lt_trans (hbl q) hs)).trans (h1.cell (p := b.add q) (hbl q))
  have sp := World.cell?_spot hcc.1
  have e1 : b.add (k * 3 + 1) = (b.add (k * 3)).add 1 := (Addr.add_add _ _ _).symm
  have e2 : b.add (k * 3 + 2) = (b.add (k * 3)).add 2 := (Addr.add_add _ _ _).symm
  have d0 := (kp (k * 3)).trans hcc.1
  have d1 := (kp (k * 3 + 1)).trans hcc.2.1
  have d2 := (kp (k * 3 + 2)).trans hcc.2.2
  have hb0 := hbl (k * 3)
  rw [e1] at d1
  rw [e2] at d2
  generalize b.add (k * 3) = A at *
  obtain ⟨Ab, Ao, As⟩ := A
  simp only at sp
  subst sp
  rw [Addr.add_lit] at d1 d2
  exact ⟨_, _, _, Ab, Ao, rfl, rfl, hb0, d0, d1, d2⟩
theorem qab {T e : TypeId} {B b : Nat} {p : Value} {bs : List Value} {w w' : World} (h : BuilderAtF T e B b p bs w) (hb : RowKit.Below w.heap.size w w') : BuilderAtF T e B b p bs w' := by
  have hlt := h.lt
  obtain ⟨hB, v, hv, hown, hne⟩ := h
  exact ⟨hB, v, (hb.block b hlt).trans hv, hown.kept (row := none) ⟨hb.os, hb.tape, hb.output, hb.size, fun k hk _ => hb.block k hk⟩ (Classical.em _), hne⟩
theorem qg0 {T e : TypeId} {B b : Nat} {bs : List Value} {w w' : World} (h : IsBuilderF T e B b bs w) (hb : RowKit.Below w.heap.size w w') : IsBuilderF T e B b bs w' := h.imp (fun h => qab h hb) (fun h => qab h hb)
theorem ws_k (B b : Nat) (bs : List Value) (s : ByteArray) (w : World) (h : IsBuilderF 118 5 B b bs w) (hlen : bs.length + s.size ≤ 140737488355328) (hBw : B ≤ w.heap.size) :
    Calls Tryd.prog 74 #[.pointer (some ⟨b, 0, none⟩), .string s] w fun e w' => e = .returned (.tuple #[.int .i64 s.size, .nilIface]) ∧ (BuilderAtF 118 5 B b (.pointer (some ⟨b, 0, none⟩)) (bs ++ strCells s) w' ∧ RowKit.Below B w w' ∧ OthersKept 5 (some b) w w') :=
  Any.Builder_WriteString_k Tryd.lays166 Tryd.Builder_Extra_166 B b bs s w h hlen hBw
theorem ss_f (B b : Nat) (l : List UInt8) (w : World) (h : IsBuilderF 118 5 B b (byteCells l) w) (hBw : B ≤ w.heap.size) :
    Calls Tryd.prog 75 #[.pointer (some ⟨b, 0, none⟩)] w fun e w' => e = .returned (.string ⟨l.toArray⟩) ∧ (IsBuilderF 118 5 B b (byteCells l) w' ∧ RowKit.Below B w w') :=
  Any.Builder_String_any_f Tryd.lays169 Tryd.Builder_Extra_169 B b l w h hBw
theorem qjf {wr W2 : World} {b q : Nat} {x0 x1 x2 : Int} (o2 : OthersKept 5 (some b) ((wr.alloc (.cells #[.int .i64 x0, .int .i64 x1, .int .i64 x2] 131)).drewN q) W2) (hne : b < wr.heap.size) : W2.cell? ⟨wr.heap.size, 1, none⟩ = some (.int .i64 x1) := by
  have h := o2 wr.heap.size (.cells #[.int .i64 x0, .int .i64 x1, .int .i64 x2] 131 (0, 0)) (heap_alloc_new _ _) (by intro h; have := Option.some.inj h; omega) (fun c fz h => by cases h)
  simp [World.cell?, h]
theorem qkr {wr W : World} {o : Obj} {q B : Nat} (hB : B ≤ wr.heap.size) (h : RowKit.Below B ((wr.alloc o).drewN q) W) : RowKit.Below B wr W :=
  ((RowKit.Below.refl _ wr).alloc hB o).trans ((below_drewN _ _ _).trans h)
theorem qkq {wr W : World} {o : Obj} {q : Nat} (h : RowKit.Below ((wr.alloc o).drewN q).heap.size ((wr.alloc o).drewN q) W) : RowKit.Below wr.heap.size wr W := by
  have s1 : ((wr.alloc o).drewN q).heap.size = wr.heap.size + 1 := by show (wr.alloc o).heap.size = _; simp
  exact ((RowKit.Below.refl _ wr).alloc (Nat.le_refl _) o).trans ((below_drewN _ _ _).trans (h.mono (by omega)))
theorem qgh (l : List Cell) (hv : ∀ i, i < l.length → inI64 (l.getD i zz3).2.1 = true) : ∀ n, n ≤ l.length → (fmTo l n).length ≤ 21 * n
  | 0, h => by simp [fmTo]
  | n + 1, h => by
    have a := qgh l hv n (by omega)
    have b : (Lib.itoa (l.getD n (0, 0, 0)).2.1).length ≤ 20 := qg5 _ (hv n (by omega))
    have c : (fmB l n).length ≤ 21 := by
      unfold fmB
      rw [List.length_append]
      split <;> simp only [List.length_cons, List.length_nil] <;> omega
    rw [fmTo, List.length_append]; omega
theorem qk1 (s : List UInt8) (h : s.length ≤ 21) {L : List Value} (hL : L.length ≤ 5000) : L.length + (⟨s.toArray⟩ : ByteArray).size ≤ 140737488355328 := by
  have : (⟨s.toArray⟩ : ByteArray).size = s.length := List.size_toArray ..
  omega
set_option maxHeartbeats 2000000 in
theorem qgk (r : Int) (l : List Cell) (b : Addr) (c : Nat) (w : World) (hk : Kept w) (hl : l.length ≤ 128) (hv : ∀ i, i < l.length → inI64 (l.getD i zz3).2.1 = true)
    (hc : ∀ i, i < l.length → w.cell? (b.add (i * 3)) = some (.int .i64 (l.getD i zz3).1) ∧ w.cell? (b.add (i * 3 + 1)) = some (.int .i64 (l.getD i zz3).2.1) ∧ w.cell? (b.add (i * 3 + 2)) = some (.int .i64 (l.getD i zz3).2.2))
    (hM : ∀ W, RowKit.Below w.heap.size w W → Calls Tryd.prog 91 #[.agg #[.int .i64 r, .slice (some b) l.length c]] W fun e w' => e = .returned (.bool true) ∧ RowKit.Below W.heap.size W w') :
    Calls Tryd.prog 49 #[.agg #[.int .i64 r, .slice (some b) l.length c]] w fun e w' => e = .returned (.string ⟨(fmTo l l.length).toArray⟩) ∧ RowKit.Below w.heap.size w w' := by
  have b0 : RowKit.Below w.heap.size w (w.alloc (.cells #[.int .i64 r, .slice (some b) l.length c] 59)) := (RowKit.Below.refl _ w).alloc (Nat.le_refl _) _
  have hM' := hM _ b0
  clear hM
  go_enter Tryd.func49, Tryd.ntmps49
  go_wp2_with (go_at_call 91; refine hM'.mono ?_)
  rintro e W1 ⟨rfl, b1⟩
  clear hM'
  have hs1 : w.heap.size < W1.heap.size := by have := b1.size; simp at this; omega
  have hb1 : W1.heap[w.heap.size]? = some (.cells #[.int .i64 r, .slice (some b) l.length c] 59 (0, 0)) := (b1.block _ (by simp)).trans (heap_alloc_new _ _)
  have hb2 : (W1.alloc (.cells #[.pointer none, .slice none 0 0] 118)).heap[w.heap.size]? = some (.cells #[.int .i64 r, .slice (some b) l.length c] 59 (0, 0)) := (RowKit.Below.heap_alloc _ _ _ hs1).trans hb1
  have e11 : (W1.alloc (.cells #[.pointer none, .slice none 0 0] 118)).cell? ⟨w.heap.size, 1, none⟩ = some (.slice (some b) l.length c) := by simp [World.cell?, hb2]
  have h0 : IsBuilderF 118 5 W1.heap.size W1.heap.size (byteCells (fmTo l 0)) (W1.alloc (.cells #[.pointer none, .slice none 0 0] 118)) := IsBuilderF.of (Lib.fresh_isBuilder 118 5 W1)
  have b2 : RowKit.Below w.heap.size w (W1.alloc (.cells #[.pointer none, .slice none 0 0] 118)) := (b0.trans (b1.mono b0.size)).alloc (by omega) _
  have H := Hid.mk' (And.intro h0 (And.intro b2 (And.intro hb2 hs1)))
  clear h0 b2 hb2 hb1 b0 b1
  go_wp2
  go_loopw [13] (fun i wr => ∃ k : Nat, k ≤ l.length ∧ i = .int .i64 k ∧ IsBuilderF 118 5 W1.heap.size W1.heap.size (byteCells (fmTo l k)) wr ∧ RowKit.Below W1.heap.size (W1.alloc (.cells #[.pointer none, .slice none 0 0] 118)) wr) (fun i _ => l.length - (RowKit.intOf i).toNat)
  case atStart => exact ⟨0, Nat.zero_le _, rfl, H.out.1, RowKit.Below.refl _ _⟩
  case round =>
    obtain ⟨k, hkl, rfl, hB, hnx⟩ := hrel
    have e12 : wr.cell? ⟨w.heap.size, 1, none⟩ = some (.slice (some b) l.length c) := (hnx.cell (by exact hs1)).trans e11
    clear e11
    by_cases hlt : k < l.length
    · obtain ⟨x0, x1, x2, Ab, Ao, hx, hA, hbA, c0, c1, c2⟩ := qh2 hc hs1 H.out.2.1 hnx hlt
      have hx1 : inI64 x1 = true := by have := hv k hlt; rw [hx] at this; exact this
      have hR : (byteCells (fmTo l k)).length ≤ 4000 := by
        have := qgh l hv k hkl
        rw [byteCells_length]; omega
      have hI := qg5 x1 hx1
      have bX : ∀ W, RowKit.Below wr.heap.size wr W → RowKit.Below w.heap.size w W := fun W h => H.out.2.1.trans ((hnx.trans (h.mono (Nat.le_trans (by simp) hnx.size))).mono (by omega))
      have bY : ∀ W, RowKit.Below wr.heap.size wr W → RowKit.Below W1.heap.size (W1.alloc (.cells #[.pointer none, .slice none 0 0] 118)) W := fun W h => hnx.trans (h.mono (Nat.le_trans (by simp) hnx.size))
      by_cases hk0 : k = 0
      · have hd : decide (0 < (k : Int)) = false := by simp; omega
        have hd2 : decide (0 < k) = false := by simp; omega
        have hd3 : ¬ 0 < k := by omega
        have hS : byteCells (fmTo l (k + 1)) = byteCells (fmTo l k) ++ byteCells (Lib.itoa x1) := by rw [fmTo, fmB, if_neg (by omega), hx, List.nil_append, byteCells_append]
        have K0 := Hid.mk' (And.intro hR (And.intro hI (And.intro hS (And.intro hB (And.intro bX bY)))))
        clear hk0 hx hS hv hc hR hI hB bX bY hbA
        go_wp2_with (fail)
        go_quiet (fail)
        go_wp2_with (go_at_call 37; refine (qgm x1 hx1 _ (qha hk (K0.out.2.2.2.2.1 _ (qkq (RowKit.Below.refl _ _))))).mono ?_)
        rintro e W3 ⟨rfl, b3⟩
        have b3' := qkq b3
        clear b3
        go_wp2_with (go_at_call 74; refine (ws_k W1.heap.size W1.heap.size (byteCells (fmTo l k)) _ _ (qg0 K0.out.2.2.2.1 b3') (qk1 _ (by have := K0.out.2.1; omega) (by have := K0.out.1; omega)) (Nat.le_trans (Nat.le_trans (by simp) hnx.size) b3'.size)).mono ?_)
        rintro e W4 ⟨rfl, h4, b4, _⟩
        go_wp2
        go_roundw
        case rel => exact ⟨k + 1, by omega, by go_num, Or.inr (by rw [K0.out.2.2.1]; exact h4), (K0.out.2.2.2.2.2 _ b3').trans b4⟩
        case measure => simp [RowKit.intOf]; omega
      · obtain ⟨y0, y1, y2, Pb, Po, hy, hP, hbP, p0, p1, p2⟩ := qh2 hc hs1 H.out.2.1 hnx (show k - 1 < l.length by omega)
        have hd : decide (0 < (k : Int)) = true := by simp; omega
        have hd2 : decide (0 < k) = true := by simp; omega
        have hd3 : 0 < k := by omega
        have hT : ((k : Int) - 1).toNat = k - 1 := by omega
        have hT2 : (k : Int) - 1 = ((k - 1 : Nat) : Int) := by omega
        have hlt2 : k - 1 < l.length := by omega
        have bA : RowKit.Below wr.heap.size wr (wr.alloc (.cells #[.int .i64 x0, .int .i64 x1, .int .i64 x2] 131)) := (RowKit.Below.refl _ wr).alloc (Nat.le_refl _) _
        have hwr : W1.heap.size < wr.heap.size := Nat.lt_of_lt_of_le (by simp) hnx.size
        have e13 : (wr.alloc (.cells #[.int .i64 x0, .int .i64 x1, .int .i64 x2] 131)).cell? ⟨w.heap.size, 1, none⟩ = some (.slice (some b) l.length c) := (bA.cell (by exact Nat.lt_trans hs1 hwr)).trans e12
        have p0' : (wr.alloc (.cells #[.int .i64 x0, .int .i64 x1, .int .i64 x2] 131)).cell? ⟨Pb, Po, none⟩ = some (.int .i64 y0) := (bA.cell (by exact Nat.lt_trans hbP (Nat.lt_trans hs1 hwr))).trans p0
        by_cases hq : x0 = y0
        · have hS : byteCells (fmTo l (k + 1)) = byteCells (fmTo l k) ++ byteCells (Lib.itoa x1) := by rw [fmTo, fmB, hx, hy, if_neg (by simp [hq]), List.nil_append, byteCells_append]
          have K0 := Hid.mk' (And.intro hR (And.intro hI (And.intro hS (And.intro hB (And.intro bX bY)))))
          clear hk0 hx hy hS hv hc hR hI hB bX bY hbA hbP bA hwr p0 p1 p2
          subst hq
          go_wp2_with (fail)
          go_quiet (fail)
          go_wp2_with (go_at_call 37; refine (qgm x1 hx1 _ (qha hk (K0.out.2.2.2.2.1 _ (qkq (RowKit.Below.refl _ _))))).mono ?_)
          rintro e W3 ⟨rfl, b3⟩
          have b3' := qkq b3
          clear b3
          go_wp2_with (go_at_call 74; refine (ws_k W1.heap.size W1.heap.size (byteCells (fmTo l k)) _ _ (qg0 K0.out.2.2.2.1 b3') (qk1 _ (by have := K0.out.2.1; omega) (by have := K0.out.1; omega)) (Nat.le_trans (Nat.le_trans (by simp) hnx.size) b3'.size)).mono ?_)
          rintro e W4 ⟨rfl, h4, b4, _⟩
          go_wp2
          go_roundw
          case rel => exact ⟨k + 1, by omega, by go_num, Or.inr (by rw [K0.out.2.2.1]; exact h4), (K0.out.2.2.2.2.2 _ b3').trans b4⟩
          case measure => simp [RowKit.intOf]; omega
        · have hS : byteCells (fmTo l (k + 1)) = byteCells (fmTo l k) ++ byteCells [124] ++ byteCells (Lib.itoa x1) := by rw [fmTo, fmB, hx, hy, if_pos ⟨hd3, hq⟩, byteCells_append, byteCells_append, List.append_assoc]
          have K0 := Hid.mk' (And.intro hR (And.intro hI (And.intro hS (And.intro hB (And.intro bX bY)))))
          have HW := Hid.mk' hwr
          clear hk0 hx hy hS hv hc hR hI hB bX bY hbA hbP bA hwr p0 p1 p2
          go_wp2_with (fail)
          go_quiet (fail)
          go_wp2_with (go_at_call 74; refine (ws_k W1.heap.size W1.heap.size (byteCells (fmTo l k)) _ _ (qg0 K0.out.2.2.2.1 (qkq (RowKit.Below.refl _ _))) (qk1 [124] (by simp) (by have := K0.out.1; omega)) (Nat.le_trans (Nat.le_of_lt HW.out) (qkq (RowKit.Below.refl _ _)).size)).mono ?_)
          rintro e W2 ⟨rfl, h2, b2, o2⟩
          have x2c := qjf o2 HW.out
          have b2' := qkr (Nat.le_of_lt HW.out) b2
          have hwW : W1.heap.size ≤ W2.heap.size := Nat.le_trans (Nat.le_of_lt HW.out) b2'.size
          clear o2 b2
          have cF := qgm x1 hx1 W2 (qha hk (H.out.2.1.trans ((hnx.trans b2').mono (Nat.le_of_lt hs1))))
          go_wp2_with (go_at_call 37; refine cF.mono ?_)
          rintro e W3 ⟨rfl, b3⟩
          clear x2c cF
          go_wp2_with (go_at_call 74; refine (ws_k W1.heap.size W1.heap.size (byteCells (fmTo l k) ++ strCells ⟨#[124]⟩) _ _ (qg0 (Or.inr h2) b3) (qk1 _ (by have := K0.out.2.1; omega) (by have := K0.out.1; rw [List.length_append]; have : (strCells ⟨#[124]⟩).length = 1 := rfl; omega)) (Nat.le_trans hwW b3.size)).mono ?_)
          rintro e W4 ⟨rfl, h4, b4, _⟩
          go_wp2
          go_roundw
          case rel => exact ⟨k + 1, by omega, by go_num, Or.inr (by rw [K0.out.2.2.1]; exact h4), hnx.trans (b2'.trans ((b3.mono hwW).trans b4))⟩
          case measure => simp [RowKit.intOf]; omega
    · obtain rfl : k = l.length := by omega
      go_wp2_with (go_at_call 75; refine (ss_f W1.heap.size W1.heap.size (fmTo l l.length) _ hB (Nat.le_trans (by simp) hnx.size)).mono ?_)
      rintro e W2 ⟨rfl, _, b2⟩
      go_wp2
      go_ret
      exact ⟨rfl, H.out.2.1.trans ((hnx.trans b2).mono (Nat.le_of_lt hs1))⟩
theorem qi8 (r : Int) : ∀ (l : List Cell) (p : Int), meshGox r p l = qi3 r p l
  | [], p => rfl
  | x :: l, p => by
    have h := qi8 r l (startOfx x.1 x.2.1 x.2.2 + widthx x.2.1)
    unfold meshGox qi3
    rw [h]; rfl
theorem qjl : ∀ (l : List Cell) (i : Nat), i < l.length → (Arr.r3 l).cells[i * 3]? = some (.int .i64 (l.getD i zz3).1) ∧ (Arr.r3 l).cells[i * 3 + 1]? = some (.int .i64 (l.getD i zz3).2.1) ∧ (Arr.r3 l).cells[i * 3 + 2]? = some (.int .i64 (l.getD i zz3).2.2)
  | [], i, h => by simp at h
  | x :: l, 0, h => ⟨rfl, rfl, rfl⟩
  | x :: l, i + 1, h => by
    have e : (Arr.r3 (x :: l)).cells = .int .i64 x.1 :: .int .i64 x.2.1 :: .int .i64 x.2.2 :: (Arr.r3 l).cells := rfl
    have ih := qjl l i (by simpa using h)
    rw [e, show (i + 1) * 3 = i * 3 + 1 + 1 + 1 by omega, show i * 3 + 1 + 1 + 1 + 1 = i * 3 + 1 + 1 + 1 + 1 from rfl]
    simp only [List.getElem?_cons_succ, List.getD_cons_succ]
    exact ih
theorem qje (s : ByteArray) : okTs Tryd.prog [9] [.str s] = true := by kernel_rfl
theorem qg6 (ds rs : List D) (h : fmeshGo ds = some rs) : Contract Tryd.prog 49 [] ds rs := by
  unfold fmeshGo at h
  split at h
  · rename_i r z l
    cases hn : decide (l.length ≤ 1048576)
    · rw [hn] at h; cases h
    rw [hn] at h
    have h := Option.some.inj (show some _ = some rs from h)
    subst h
    have hl : l.length ≤ 1048576 := of_decide_eq_true hn
    refine str_contract (fn := Tryd.f49) (S := 9) Tryd.func49 (by kernel_rfl) (by kernel_rfl) (qje _) (fun w args FF hk hd => ?_)
    simp only [RepDs, RepD] at hd
    obtain ⟨u0, us0, F0, F0', e0, rfl, ⟨vs, rfl, hvs⟩, rfl, rfl⟩ := hd
    obtain ⟨u1, us1, F1, F1', e1, rfl, ⟨rfl, rfl⟩, u2, us2, F2, F2', rfl, rfl, ⟨p, rfl, rp, rfl⟩, rfl, rfl⟩ := hvs
    have hv : vs = #[.int .i64 r, .slice p.base p.len p.cap] := by rw [← Array.toArray_toList (xs := vs), e1]
    subst hv
    have ha : args = #[.agg #[.int .i64 r, .slice p.base p.len p.cap]] := by rw [← Array.toArray_toList (xs := args), e0]
    subst ha
    obtain ⟨r1, r2, r3, r4, r5, r6⟩ := id rp
    have r1' : l.length = p.len := r1
    have hM : ∀ b, qi3 r 0 l = b → ∀ W, RowKit.Below w.heap.size w W → Calls Tryd.prog 91 #[.agg #[.int .i64 r, .slice p.base p.len p.cap]] W fun e w' => e = .returned (.bool b) ∧ RowKit.Below W.heap.size W w' := fun b hb W hW => by
      subst hb
      refine qaj (FF := [(false, foot p (.arr false z (.r3 l)))]) (qg8 r z l (by omega)) (qha hk hW) ?_ (by simp [Go.Ev.Sep]) ?_
      · simp only [RepDs, RepD]
        exact ⟨_, [], _, [], rfl, (List.append_nil _).symm, ⟨_, rfl, _, _, [], _, rfl, rfl, ⟨rfl, rfl⟩, _, [], _, [], rfl, (List.append_nil _).symm, ⟨p, rfl, rp.frame (fr_of_below (M := fun _ _ => False) hW) (fun _ _ _ h => h), rfl⟩, rfl, rfl⟩, rfl, rfl⟩
      · rintro x off ⟨A, hA, ho, _⟩
        rw [List.mem_singleton] at hA
        subst hA
        cases ho
    cases g : qi3 r 0 l
    · have e : fmeshL r l = [] := by unfold fmeshL; rw [qi8, g]; rfl
      rw [e]
      exact qgj r p.base p.len p.cap w (hM false g)
    · have L := qi6 g
      have e : fmeshL r l = fmTo l l.length := by unfold fmeshL; rw [qi8, g]; rfl
      have hM1 := hM true g
      rw [e]
      cases hb : p.base with
      | none => have := (r4 hb).2; omega
      | some b =>
        have hc := (r5 b hb).2
        rw [hb, ← r1'] at hM1
        rw [← r1']
        refine qgk r l b p.cap w hk L.2 (fun i hi => ?_) (fun i hi => ?_) hM1
        · have h := qi7 l r 0 g i
          simp only [qh4] at h
          unfold inI64
          rw [decide_eq_true (by omega : -9223372036854775808 ≤ (l.getD i zz3).2.1), decide_eq_true (by omega : (l.getD i zz3).2.1 ≤ 9223372036854775807)]; rfl
        · have c := qjl l i hi
          exact ⟨hc _ _ c.1, hc _ _ c.2.1, hc _ _ c.2.2⟩
  · cases h
end Go.Proofs.YtjfjniebmdafeaaDoor
end
section
namespace Go.Proofs.YtjfjniebmdafeaaDoor
open Go.RowKit Go.Lib Go.Ev Go.Shelf Go.Sort
theorem qjd (s : ByteArray) : okTs Tryd.prog [9] [.str s] = true := by kernel_rfl
theorem qg7 (ds rs : List D) (h : itoaGo ds = some rs) : Contract Tryd.prog 76 [] ds rs := by
  unfold itoaGo at h
  split at h
  · rename_i n
    cases hn : inI64 n
    · rw [hn] at h; cases h
    rw [hn] at h
    have h := Option.some.inj (show some _ = some rs from h)
    subst h
    refine str_contract (fn := Tryd.f76) (S := 9) Tryd.func76 (by kernel_rfl) (by kernel_rfl) (qjd _) (fun w args FF hk hd => ?_)
    simp only [RepDs, RepD] at hd
    obtain ⟨u, us, F1, F2, e0, rfl, ⟨rfl, rfl⟩, rfl, rfl⟩ := hd
    have ha : args = #[.int .i64 n] := by rw [← Array.toArray_toList (xs := args), e0]
    subst ha
    exact qg3 n hn w hk
  · cases h
theorem qg9 (ds rs : List D) (h : spacedGo ds = some rs) : Contract Tryd.prog 36 [] ds rs := by
  unfold spacedGo at h
  split at h
  · rename_i wd z l
    cases hn : (decide (wd.size ≤ 1000) && (decide (l.length ≤ 1000) && l.all inI64))
    · rw [hn] at h; cases h
    rw [hn] at h
    have h := Option.some.inj (show some _ = some rs from h)
    subst h
    simp only [Bool.and_eq_true, decide_eq_true_eq, List.all_eq_true] at hn
    obtain ⟨hw, hl, hx⟩ := hn
    refine str_contract (fn := Tryd.f36) (S := 9) Tryd.func36 (by kernel_rfl) (by kernel_rfl) (qjd _) (fun w args FF hk hd => ?_)
    simp only [RepDs, RepD] at hd
    obtain ⟨u0, us0, F0, F0', e0, rfl, ⟨rfl, rfl⟩, u1, us1, F1, F1', rfl, rfl, ⟨p, rfl, rp, rfl⟩, rfl, rfl⟩ := hd
    have ha : args = #[.string wd, .slice p.base p.len p.cap] := by rw [← Array.toArray_toList (xs := args), e0]
    subst ha
    obtain ⟨r1, r2, r3, r4, r5, r6⟩ := rp
    have r1' : l.length = p.len := r1
    cases hb : p.base with
    | none =>
      have h0 := (r4 hb).2
      have : l = [] := List.eq_nil_of_length_eq_zero (by omega)
      subst this
      rw [h0]
      exact qkk wd p.cap w hk hw
    | some b =>
      have hc := (r5 b hb).2
      rw [← r1']
      refine qkl wd l b p.cap w hk hw hl hx (fun i x hi => hc i _ ?_)
      show (l.map fun n => Value.int .i64 n)[i]? = _
      rw [List.getElem?_map, hi]; rfl
  · cases h
theorem withExt : ∀ f g, An.ext f = some g → ∀ ds rs, g ds = some rs → Contract Tryd.prog f (An.mode f) ds rs := by
  intro f g h ds rs hd
  by_cases h1 : f = 76
  · subst h1
    have e : An.ext 76 = some itoaGo := rfl
    rw [e] at h; cases h
    exact qg7 ds rs hd
  by_cases h2 : f = 36
  · subst h2
    have e : An.ext 36 = some spacedGo := rfl
    rw [e] at h; cases h
    exact qg9 ds rs hd
  by_cases h3 : f = 49
  · subst h3
    have e : An.ext 49 = some fmeshGo := rfl
    rw [e] at h; cases h
    exact qg6 ds rs hd
  have n3 : Nat.beq f 49 = false := by cases b : Nat.beq f 49 with | false => rfl | true => exact absurd (Nat.eq_of_beq_eq_true b) h3
  have n1 : Nat.beq f 76 = false := by cases b : Nat.beq f 76 with | false => rfl | true => exact absurd (Nat.eq_of_beq_eq_true b) h1
  have n2 : Nat.beq f 36 = false := by cases b : Nat.beq f 36 with | false => rfl | true => exact absurd (Nat.eq_of_beq_eq_true b) h2
  have e : An.ext f = none := by show cond (Nat.beq f 76) (some itoaGo) (cond (Nat.beq f 36) (some spacedGo) (cond (Nat.beq f 49) (some fmeshGo) none)) = none; rw [n1, n2, n3]; rfl
  rw [e] at h; cases h
theorem qbf (k : Nat) (wd : ByteArray) (z : Bool) (l : List Int) (hw : wd.size ≤ 1000) (hl : l.length ≤ 1000) (hx : l.all inI64 = true) : go (k + 1) impl_spaced [.str wd, .arr false z (.ints .i64 l)] = some [.str ⟨(spacedL wd.data.toList l).toArray⟩] := by
  have e : go (k + 1) impl_spaced [.str wd, .arr false z (.ints .i64 l)] = spacedGo [.str wd, .arr false z (.ints .i64 l)] := Eq.trans rfl rfl
  rw [e]; show (bif (decide (wd.size ≤ 1000) && (decide (l.length ≤ 1000) && l.all inI64)) then some [D.str ⟨(spacedL wd.data.toList l).toArray⟩] else none) = _; rw [hx, decide_eq_true hw, decide_eq_true hl]; rfl
theorem qaq (k : Nat) (r : Int) (z : Bool) (l : List Cell) (hl : l.length ≤ 1048576) : go (k + 1) impl_FormatMesh [.agg [.int .i64 r, .arr false z (.r3 l)]] = some [.str ⟨(fmeshL r l).toArray⟩] := by
  have e : go (k + 1) impl_FormatMesh [.agg [.int .i64 r, .arr false z (.r3 l)]] = fmeshGo [.agg [.int .i64 r, .arr false z (.r3 l)]] := Eq.trans rfl rfl
  rw [e]; show (bif decide (l.length ≤ 1048576) then some [D.str ⟨(fmeshL r l).toArray⟩] else none) = _; rw [decide_eq_true hl]; rfl
end Go.Proofs.YtjfjniebmdafeaaDoor
end
section
namespace Go.Proofs.YtjfjniebmdafeaaDoor
open Go.Ev
set_option maxRecDepth 20000
abbrev ba (l : List UInt8) : ByteArray := ⟨l.toArray⟩
theorem qac (a b : List UInt8) : ba a ++ ba b = ba (a ++ b) := by
  apply ByteArray.ext
  simp [ba, ByteArray.data_append]
theorem qae (a : List UInt8) : ByteArray.size (ba a) = a.length := List.size_toArray ..
theorem qad (a : List UInt8) : (ba a).data.toList = a := Eq.trans rfl rfl
def decD (m : Nat) : List UInt8 := if h : m = 0 then [] else decD (m / 10) ++ [UInt8.ofNat (48 + m % 10)]
termination_by m
decreasing_by omega
theorem qdw : ∀ (m : Nat), m ≠ 0 → decD m = Lib.decDigits m := by
  intro m
  induction m using Nat.strongRecOn with
  | _ m ih =>
    intro h
    rw [decD, dif_neg h, Lib.decDigits]
    by_cases g : m < 10
    · rw [dif_pos g, show m / 10 = 0 by omega, show m % 10 = m by omega, decD, dif_pos rfl, List.nil_append]
    · rw [dif_neg g, ih (m / 10) (by omega) (by omega)]
theorem qci (k : Nat) (hk : 2000000 ≤ k) (d : Nat) (hd : d < 10) : go (k + 1) spec_l01Figure [.int .i64 (d : Int)] = some [.int .u8 ((48 + d : Nat) : Int)] := by
  rw [qf8]
  simp (disch := omega) only [qai, nth0, nth1, nth2, nth3, bit, qc1, qc2, qdd, qdi, qdj, qdk, qdl, qdm, qdn, qdo, qc3, qc4, qc5, qc6, qc7, qc8, qc9, qda, qdb, qdc, qde, qdf, qdg, qdh, qky, qkx, qkz, qjb, qjk, qjm, qgx, qak, qku, nI, qdt, qdr, Bool.not_true, Bool.not_false, Bool.and_true, Bool.true_and, Bool.and_false, Bool.false_and, Bool.or_true, Bool.true_or, Bool.or_false, Bool.false_or, beq_self_eq_true, dTT, dFF, dT, dF, bigI, big0, qja, qk8, qk9, List.length_set, List.length_replicate, Int.toNat_natCast, qcz, qc0, imax, imin, qk7, show (48 : Int) + (d : Int) = ((48 + d : Nat) : Int) by omega]
theorem qks (d : Nat) : strL [((d : Nat) : Int)] = ba [UInt8.ofNat d] := by
  unfold strL
  simp [ba]
theorem m_fi (k : Nat) (hk : 2000000 ≤ k) (fu : List (Nat × Nat)) (bl : Bool) : ∀ (M N m : Nat) (x : Int) (s : List UInt8), M < N → m < 10 ^ M → (x = (m : Int) ∨ x = -(m : Int)) → m ≤ 9223372036854775808 → s.length + M ≤ 100 → (x ≤ 9223372036854775807) →
    lp (k + 1) spec_FormatInt [] fu 5 (N) (qj8 x bl (ba s)) = some [.str (cond bl (ba (45 :: (decD m ++ s))) (ba (decD m ++ s)))]
  | M, 0, m, x, s, hN, hm, hx, hb, hs, hx' => by omega
  | 0, N + 1, m, x, s, hN, hm, hx, hb, hs, hx' => by
    rw [qhv]
    have m0 : m = 0 := by simpa using hm
    subst m0
    have x0 : x = 0 := by omega
    subst x0
    rw [decD, dif_pos rfl, List.nil_append]
    have sz := qae s
    have s1 : ByteArray.size { data := #[(45 : UInt8)] } = 1 := Eq.trans rfl rfl
    have ap : ({ data := #[(45 : UInt8)] } : ByteArray) ++ ba s = ba (45 :: s) := qac [45] s
    cases bl
    · simp (disch := omega) only [qai, nth0, nth1, nth2, nth3, bit, qc1, qc2, qdd, qdi, qdj, qdk, qdl, qdm, qdn, qdo, qc3, qc4, qc5, qc6, qc7, qc8, qc9, qda, qdb, qdc, qde, qdf, qdg, qdh, qky, qkx, qkz, qjb, qjk, qjm, qgx, qak, qku, nI, qdt, qdr, Bool.not_true, Bool.not_false, Bool.and_true, Bool.true_and, Bool.and_false, Bool.false_and, Bool.or_true, Bool.true_or, Bool.or_false, Bool.false_or, beq_self_eq_true, dTT, dFF, dT, dF, bigI, big0, qja, qk8, qk9, List.length_set, List.length_replicate, Int.toNat_natCast, qcz, qc0, imax, imin]
    · simp (disch := omega) only [qai, nth0, nth1, nth2, nth3, bit, qc1, qc2, qdd, qdi, qdj, qdk, qdl, qdm, qdn, qdo, qc3, qc4, qc5, qc6, qc7, qc8, qc9, qda, qdb, qdc, qde, qdf, qdg, qdh, qky, qkx, qkz, qjb, qjk, qjm, qgx, qak, qku, nI, qdt, qdr, Bool.not_true, Bool.not_false, Bool.and_true, Bool.true_and, Bool.and_false, Bool.false_and, Bool.or_true, Bool.true_or, Bool.or_false, Bool.false_or, beq_self_eq_true, dTT, dFF, dT, dF, bigI, big0, qja, qk8, qk9, List.length_set, List.length_replicate, Int.toNat_natCast, qcz, qc0, imax, imin, sz, s1, ap]
  | M + 1, N + 1, m, x, s, hN, hm, hx, hb, hs, hx' => by
    rw [qhv]
    have sz := qae s
    have s1 : ByteArray.size { data := #[(45 : UInt8)] } = 1 := Eq.trans rfl rfl
    have ap : ({ data := #[(45 : UInt8)] } : ByteArray) ++ ba s = ba (45 :: s) := qac [45] s
    by_cases g : m = 0
    · subst g
      have x0 : x = 0 := by omega
      subst x0
      rw [decD, dif_pos rfl, List.nil_append]
      cases bl
      · simp (disch := omega) only [qai, nth0, nth1, nth2, nth3, bit, qc1, qc2, qdd, qdi, qdj, qdk, qdl, qdm, qdn, qdo, qc3, qc4, qc5, qc6, qc7, qc8, qc9, qda, qdb, qdc, qde, qdf, qdg, qdh, qky, qkx, qkz, qjb, qjk, qjm, qgx, qak, qku, nI, qdt, qdr, Bool.not_true, Bool.not_false, Bool.and_true, Bool.true_and, Bool.and_false, Bool.false_and, Bool.or_true, Bool.true_or, Bool.or_false, Bool.false_or, beq_self_eq_true, dTT, dFF, dT, dF, bigI, big0, qja, qk8, qk9, List.length_set, List.length_replicate, Int.toNat_natCast, qcz, qc0, imax, imin]
      · simp (disch := omega) only [qai, nth0, nth1, nth2, nth3, bit, qc1, qc2, qdd, qdi, qdj, qdk, qdl, qdm, qdn, qdo, qc3, qc4, qc5, qc6, qc7, qc8, qc9, qda, qdb, qdc, qde, qdf, qdg, qdh, qky, qkx, qkz, qjb, qjk, qjm, qgx, qak, qku, nI, qdt, qdr, Bool.not_true, Bool.not_false, Bool.and_true, Bool.true_and, Bool.and_false, Bool.false_and, Bool.or_true, Bool.true_or, Bool.or_false, Bool.false_or, beq_self_eq_true, dTT, dFF, dT, dF, bigI, big0, qja, qk8, qk9, List.length_set, List.length_replicate, Int.toNat_natCast, qcz, qc0, imax, imin, sz, s1, ap]
    have hne : ¬ x = 0 := by omega
    have m10 : m / 10 < 10 ^ M := by rw [Nat.pow_succ] at hm; omega
    have fig := qci k (by omega) (m % 10) (by omega)
    have st := qks (48 + m % 10)
    have sb : ByteArray.size (ba [UInt8.ofNat (48 + m % 10)]) = 1 := Eq.trans rfl rfl
    have ap2 : ba [UInt8.ofNat (48 + m % 10)] ++ ba s = ba (UInt8.ofNat (48 + m % 10) :: s) := qac _ _
    have ed : decD m ++ s = decD (m / 10) ++ UInt8.ofNat (48 + m % 10) :: s := by
      rw [decD, dif_neg g, List.append_assoc]; rfl
    rw [ed]
    rcases hx with hx | hx
    · have IH := m_fi k hk fu bl M N (m / 10) ((m / 10 : Nat) : Int) (UInt8.ofNat (48 + m % 10) :: s) (by omega) m10 (Or.inl rfl) (by omega) (by simp only [List.length_cons]; omega) (by omega)
      have t1 : Int.tmod x 10 = ((m % 10 : Nat) : Int) := by rw [hx, Int.tmod_eq_emod_of_nonneg (by omega)]; omega
      have t2 : Int.tdiv x 10 = ((m / 10 : Nat) : Int) := by rw [hx, Int.tdiv_eq_ediv_of_nonneg (by omega)]; omega
      simp (disch := omega) only [qai, nth0, nth1, nth2, nth3, bit, qc1, qc2, qdd, qdi, qdj, qdk, qdl, qdm, qdn, qdo, qc3, qc4, qc5, qc6, qc7, qc8, qc9, qda, qdb, qdc, qde, qdf, qdg, qdh, qky, qkx, qkz, qjb, qjk, qjm, qgx, qak, qku, nI, qdt, qdr, Bool.not_true, Bool.not_false, Bool.and_true, Bool.true_and, Bool.and_false, Bool.false_and, Bool.or_true, Bool.true_or, Bool.or_false, Bool.false_or, beq_self_eq_true, dTT, dFF, dT, dF, bigI, big0, qja, qk8, qk9, List.length_set, List.length_replicate, Int.toNat_natCast, qcz, qc0, imax, imin, t1, t2, fig, st, sb, sz, ap2, IH]
    · have IH := m_fi k hk fu bl M N (m / 10) (-((m / 10 : Nat) : Int)) (UInt8.ofNat (48 + m % 10) :: s) (by omega) m10 (Or.inr rfl) (by omega) (by simp only [List.length_cons]; omega) (by omega)
      have t1 : Int.tmod x 10 = -((m % 10 : Nat) : Int) := by rw [hx, Int.neg_tmod, Int.tmod_eq_emod_of_nonneg (by omega)]; omega
      have t2 : Int.tdiv x 10 = -((m / 10 : Nat) : Int) := by rw [hx, Int.neg_tdiv, Int.tdiv_eq_ediv_of_nonneg (by omega)]; omega
      by_cases h0 : m % 10 = 0
      · rw [h0] at t1 fig st sb ap2 ⊢
        rw [h0] at IH
        rw [show ((0 : Nat) : Int) = 0 from rfl] at t1 fig
        rw [Int.neg_zero] at t1
        simp (disch := omega) only [qai, nth0, nth1, nth2, nth3, bit, qc1, qc2, qdd, qdi, qdj, qdk, qdl, qdm, qdn, qdo, qc3, qc4, qc5, qc6, qc7, qc8, qc9, qda, qdb, qdc, qde, qdf, qdg, qdh, qky, qkx, qkz, qjb, qjk, qjm, qgx, qak, qku, nI, qdt, qdr, Bool.not_true, Bool.not_false, Bool.and_true, Bool.true_and, Bool.and_false, Bool.false_and, Bool.or_true, Bool.true_or, Bool.or_false, Bool.false_or, beq_self_eq_true, dTT, dFF, dT, dF, bigI, big0, qja, qk8, qk9, List.length_set, List.length_replicate, Int.toNat_natCast, qcz, qc0, imax, imin, t1, t2, fig, st, sb, sz, ap2, IH]
      · simp (disch := omega) only [qai, nth0, nth1, nth2, nth3, bit, qc1, qc2, qdd, qdi, qdj, qdk, qdl, qdm, qdn, qdo, qc3, qc4, qc5, qc6, qc7, qc8, qc9, qda, qdb, qdc, qde, qdf, qdg, qdh, qky, qkx, qkz, qjb, qjk, qjm, qgx, qak, qku, nI, qdt, qdr, Bool.not_true, Bool.not_false, Bool.and_true, Bool.true_and, Bool.and_false, Bool.false_and, Bool.or_true, Bool.true_or, Bool.or_false, Bool.false_or, beq_self_eq_true, dTT, dFF, dT, dF, bigI, big0, qja, qk8, qk9, List.length_set, List.length_replicate, Int.toNat_natCast, qcz, qc0, imax, imin, t1, t2, fig, st, sb, sz, ap2, IH, show (0 : Int) - -((m % 10 : Nat) : Int) = ((m % 10 : Nat) : Int) by omega]
theorem qcj (k : Nat) (hk : 2000000 ≤ k) (n : Int) (hn : inI64 n = true) : go (k + 2) spec_FormatInt [.int .i64 n] = some [.str (ba (Lib.itoa n))] := by
  have hn' := hn
  unfold inI64 at hn'
  simp only [Bool.and_eq_true, decide_eq_true_eq] at hn'
  rw [qfx]
  by_cases g : n = 0
  · subst g
    have : Lib.itoa 0 = [48] := by
      unfold Lib.itoa; rw [if_neg (by omega)]; exact Lib.decDigits_one (by decide)
    rw [this]
    simp (disch := omega) only [qai, nth0, nth1, nth2, nth3, bit, qc1, qc2, qdd, qdi, qdj, qdk, qdl, qdm, qdn, qdo, qc3, qc4, qc5, qc6, qc7, qc8, qc9, qda, qdb, qdc, qde, qdf, qdg, qdh, qky, qkx, qkz, qjb, qjk, qjm, qgx, qak, qku, nI, qdt, qdr, Bool.not_true, Bool.not_false, Bool.and_true, Bool.true_and, Bool.and_false, Bool.false_and, Bool.or_true, Bool.true_or, Bool.or_false, Bool.false_or, beq_self_eq_true, dTT, dFF, dT, dF, bigI, big0, qja, qk8, qk9, List.length_set, List.length_replicate, Int.toNat_natCast, qcz, qc0, imax, imin]
  have e := m_fi k hk [] (decide (n < 0)) 19 (k + 1) n.natAbs n [] (by omega) (by omega) (by omega) (by omega) (by simp) hn'.2
  rw [List.append_nil, qdw _ (by omega)] at e
  have i : Lib.itoa n = cond (decide (n < 0)) (45 :: Lib.decDigits n.natAbs) (Lib.decDigits n.natAbs) := by
    unfold Lib.itoa
    by_cases h : n < 0
    · rw [if_pos h, decide_eq_true h]; rfl
    · rw [if_neg h, decide_eq_false h, show n.toNat = n.natAbs by omega]; rfl
  have e' : ba (Lib.itoa n) = cond (decide (n < 0)) (ba (45 :: Lib.decDigits n.natAbs)) (ba (Lib.decDigits n.natAbs)) := by
    rw [i]; cases decide (n < 0) <;> rfl
  rw [e']
  simp (disch := omega) only [qai, nth0, nth1, nth2, nth3, bit, qc1, qc2, qdd, qdi, qdj, qdk, qdl, qdm, qdn, qdo, qc3, qc4, qc5, qc6, qc7, qc8, qc9, qda, qdb, qdc, qde, qdf, qdg, qdh, qky, qkx, qkz, qjb, qjk, qjm, qgx, qak, qku, nI, qdt, qdr, Bool.not_true, Bool.not_false, Bool.and_true, Bool.true_and, Bool.and_false, Bool.false_and, Bool.or_true, Bool.true_or, Bool.or_false, Bool.false_or, beq_self_eq_true, dTT, dFF, dT, dF, bigI, big0, qja, qk8, qk9, List.length_set, List.length_replicate, Int.toNat_natCast, qcz, qc0, imax, imin]
  exact e
end Go.Proofs.YtjfjniebmdafeaaDoor
end
section
namespace Go.Proofs.YtjfjniebmdafeaaDoor
open Go.Ev
abbrev ch0 (x : Cell) : Cell := (x.1, x.2.1 + 1, 2 * x.2.2)
abbrev ch1 (x : Cell) : Cell := (x.1, x.2.1 + 1, 2 * x.2.2 + 1)
def qkm (l : List Cell) (i : Nat) : List Cell := l.take i ++ ch0 (l.getD i zz3) :: ch1 (l.getD i zz3) :: l.drop (i + 1)
def qdp (l : List Cell) (i : Nat) : Nat := if qh4 l (i + 1) < qh4 l i then i + 1 else i
def balN : Nat → List Cell → List Cell
  | 0, l => l
  | n + 1, l => if unb l < 0 then l else balN n (qkm l (qdp l (unb l).toNat))
def bal (l : List Cell) : List Cell := balN (129 - l.length) l
end Go.Proofs.YtjfjniebmdafeaaDoor
end
section
namespace Go.Proofs.YtjfjniebmdafeaaDoor
open Go.Ev
theorem qi2 : ∀ (m t : List Int), m.length = t.length → (∀ i, i < m.length → (0 ≤ m.getD i 0 ∧ m.getD i 0 ≤ 10000000) ∧ 0 ≤ t.getD i 0 ∧ t.getD i 0 ≤ 1000 * m.getD i 0) → qiz m t = true
  | [], t, hl, h => by simp [qiz]
  | x :: m, [], hl, h => by simp at hl
  | x :: m, y :: t, hl, h => by
    have h0 := h 0 (by simp)
    simp only [List.getD_cons_zero] at h0
    have ih := qi2 m t (by simpa using hl) fun i hi => by simpa using h (i + 1) (by simpa using hi)
    simp only [qiz, ih, Bool.and_true, Bool.and_eq_true, qgu]
    exact h0
theorem qge : ∀ (l : List Int), (∀ x ∈ l, 0 ≤ x) → ∀ x ∈ l, x ≤ isum l
  | [], h, x, hx => by cases hx
  | y :: l, h, x, hx => by
    have hn : 0 ≤ isum l := by
      clear hx
      induction l with
      | nil => simp [isum]
      | cons z l ih =>
        have := ih (fun w hw => h w (by simp only [List.mem_cons] at *; rcases hw with rfl | hw <;> simp_all))
        have := h z (by simp)
        simp only [isum]; omega
    have hy := h y (by simp)
    simp only [isum]
    rcases List.mem_cons.1 hx with rfl | hx
    · omega
    · have := qge l (fun w hw => h w (by simp [hw])) x hx
      omega
section
variable {r : Int} {l : List Cell} {m t b : List Int}
end
end Go.Proofs.YtjfjniebmdafeaaDoor
end
section
namespace Go.Proofs.YtjfjniebmdafeaaDoor
open Go.Ev
abbrev S3 := List Cell × List Int × List Int
structure StU (r : Int) (s : S3) (b : List Int) : Prop where
  mesh : qi3 r 0 s.1 = true
  ml : s.2.1.length = s.1.length
  tl : s.2.2.length = s.1.length
  bl : (b.length : Int) = r
  mt : qiz s.2.1 s.2.2 = true
  bed : qag b = true
  sum : isum s.2.1 ≤ 10000000
theorem StU.len {r : Int} {s : S3} {b : List Int} (U : StU r s b) : 1 ≤ s.1.length ∧ s.1.length ≤ 128 := qi6 U.mesh
theorem StU.rr {r : Int} {s : S3} {b : List Int} (U : StU r s b) : 1 ≤ r ∧ r ≤ 8 := ⟨(qi5 _ _ _ U.mesh).1, (qi5 _ _ _ U.mesh).2.1⟩
theorem StU.at {r : Int} {s : S3} {b : List Int} (U : StU r s b) (i : Nat) : 0 ≤ s.2.1.getD i 0 ∧ s.2.1.getD i 0 ≤ 10000000 ∧ 0 ≤ s.2.2.getD i 0 ∧ s.2.2.getD i 0 ≤ 1000 * s.2.1.getD i 0 := qi0 _ _ (by rw [U.ml, U.tl]) U.mt i
theorem StU.id {r : Int} {s : S3} {b : List Int} (U : StU r s b) {i : Nat} (h : i < s.1.length) : idOk (s.1.getD i zz3).1 (s.1.getD i zz3).2.1 (s.1.getD i zz3).2.2 = true := ((qi5 _ _ _ U.mesh).2.2.2.1 _ h).2.2
abbrev hA (x : Int) : Int := x - x / 2
abbrev hB (x : Int) : Int := x / 2
end Go.Proofs.YtjfjniebmdafeaaDoor
end
section
namespace Go.Proofs.YtjfjniebmdafeaaDoor
open Go.Ev
structure Ld where
  mi : Int
  mo : Int
  ti : Int
  ou : Int
structure Pl where
  bi : Int
  bs : Int
  bo : Int
  rain : Int
  loss : Int
  dec : Int
  high : Int
  low : Int
  every : Int
def Ld.add (a b : Ld) : Ld := ⟨a.mi + b.mi, a.mo + b.mo, a.ti + b.ti, a.ou + b.ou⟩
theorem StF.mk' {r : Int} {l : List Cell} {m t b m' t' : List Int} (F : StF r l m t b) (hm : m'.length = l.length) (ht : t'.length = l.length) (h : ∀ i, i < l.length → 0 ≤ m'.getD i 0 ∧ 0 ≤ t'.getD i 0 ∧ t'.getD i 0 ≤ 1000 * m'.getD i 0) (hs : isum m' ≤ 10000000) : StF r l m' t' b := by
  refine ⟨F.mesh, F.bal, hm, ht, F.bl, ?_, F.bed, hs⟩
  refine qi2 _ _ (by omega) fun i hi => ?_
  have a := h i (by omega)
  have nn : ∀ x ∈ m', 0 ≤ x := by
    intro x hx
    obtain ⟨j, hj, rfl⟩ := List.getElem_of_mem hx
    have := (h j (by omega)).1
    rwa [List.getD_eq_getElem?_getD, List.getElem?_eq_getElem hj, Option.getD_some] at this
  have := qge m' nn _ (qgp hi 0)
  exact ⟨⟨a.1, by omega⟩, a.2⟩
section
variable {r : Int} {l : List Cell} {m t b : List Int}
end
section
variable {r : Int} {l : List Cell} {m t b : List Int}
end
end Go.Proofs.YtjfjniebmdafeaaDoor
end
section
namespace Go.Proofs.YtjfjniebmdafeaaDoor
open Go.Ev
structure PlF (p : Pl) : Prop where
  bi : 0 ≤ p.bi ∧ p.bi ≤ 10000
  bs : 0 ≤ p.bs ∧ p.bs ≤ 1000
  bo : 0 ≤ p.bo ∧ p.bo ≤ 250
  rain : 0 ≤ p.rain ∧ p.rain ≤ 10000
  loss : 0 ≤ p.loss ∧ p.loss ≤ 10000
  dec : 0 ≤ p.dec ∧ p.dec ≤ 1000
  high : 0 ≤ p.high ∧ p.high ≤ 1000000
  low : 0 ≤ p.low ∧ p.low ≤ 1000000
  every : 0 ≤ p.every ∧ p.every ≤ 100
end Go.Proofs.YtjfjniebmdafeaaDoor
end
section
namespace Go.Proofs.YtjfjniebmdafeaaDoor
open Go.Ev
theorem qf7 (k : Nat) (a0 : Int) (a1z : Bool) (a1 : List (Int × Int × Int)) (a2z : Bool) (a2 : List Int) (a3z : Bool) (a3 : List Int) (a4z : Bool) (a4 : List Int) (a5 a6 a7 a8 a9 a10 a11 a12 a13 a14 a15 a16 a17 a18 a19 a20 : Int) : go (k + 1) spec_WorldOk [(.agg [(.int .i64 (a0)), (.arr false (a1z) (.r3 (a1))), (.arr false (a2z) (.ints .i64 (a2))), (.arr false (a3z) (.ints .i64 (a3))), (.arr false (a4z) (.ints .i64 (a4))), (.int .i64 (a5)), (.int .i64 (a6)), (.int .i64 (a7)), (.int .i64 (a8)), (.int .i64 (a9)), (.int .i64 (a10)), (.int .i64 (a11)), (.int .i64 (a12)), (.int .i64 (a13)), (.int .i64 (a14)), (.int .i64 (a15)), (.int .i64 (a16)), (.int .i64 (a17)), (.int .i64 (a18)), (.int .i64 (a19)), (.int .i64 (a20))])] =
 (go k spec_StateOk [(.agg [(.int .i64 (a0)), (.arr false (a1z) (.r3 (a1))), (.arr false (a2z) (.ints .i64 (a2))), (.arr false (a3z) (.ints .i64 (a3))), (.arr false (a4z) (.ints .i64 (a4)))])]).bind fun r0 =>
 cond (!bit (nth r0 0))
 (some [(.bool (false))])
 ((go k spec_PlanOk [(.agg [(.int .i64 (a5)), (.int .i64 (a6)), (.int .i64 (a7)), (.int .i64 (a8)), (.int .i64 (a9)), (.int .i64 (a10)), (.int .i64 (a11)), (.int .i64 (a12)), (.int .i64 (a13))])]).bind fun r1 =>
 cond (!bit (nth r1 0))
 (some [(.bool (false))])
 ((go k spec_l01In [(.int .i64 (a14)), (.int .i64 (0 : Int)), (.int .i64 ((100000 : Int)))]).bind fun r2 =>
 cond (!bit (nth r2 0))
 (some [(.bool (false))])
 ((go k spec_l36Amount [(.int .i64 (a15))]).bind fun r3 =>
 cond (!bit (nth r3 0))
 (some [(.bool (false))])
 ((go k spec_l36Amount [(.int .i64 (a16))]).bind fun r4 =>
 cond (!bit (nth r4 0))
 (some [(.bool (false))])
 ((go k spec_l36Amount [(.int .i64 (a17))]).bind fun r5 =>
 cond (!bit (nth r5 0))
 (some [(.bool (false))])
 ((go k spec_l36Amount [(.int .i64 (a18))]).bind fun r6 =>
 cond (!bit (nth r6 0))
 (some [(.bool (false))])
 ((go k spec_l07Sum [(.arr false (a2z) (.ints .i64 (a2)))]).bind fun r7 =>
 cond (decide (IntKind.wrap .i64 (IntKind.wrap .i64 (D.toInt (nth r7 0) - a15) + a16) = a19))
 ((go k spec_l07Sum [(.arr false (a3z) (.ints .i64 (a3)))]).bind fun r8 =>
 some [(.bool (decide (IntKind.wrap .i64 (IntKind.wrap .i64 (D.toInt (nth r8 0) - a17) + a18) = a20)))])
 (some [(.bool (false))])))))))) := by kernel_rfl
theorem qej (k : Nat) (a0 : Int) (a1z : Bool) (a1 : List (Int × Int × Int)) (a2z : Bool) (a2 : List Int) (a3z : Bool) (a3 : List Int) (a4z : Bool) (a4 : List Int) (a5 a6 a7 a8 a9 a10 a11 a12 a13 a14 a15 a16 a17 a18 a19 a20 : Int) : go (k + 1) impl_WorldOk [(.agg [(.int .i64 (a0)), (.arr false (a1z) (.r3 (a1))), (.arr false (a2z) (.ints .i64 (a2))), (.arr false (a3z) (.ints .i64 (a3))), (.arr false (a4z) (.ints .i64 (a4))), (.int .i64 (a5)), (.int .i64 (a6)), (.int .i64 (a7)), (.int .i64 (a8)), (.int .i64 (a9)), (.int .i64 (a10)), (.int .i64 (a11)), (.int .i64 (a12)), (.int .i64 (a13)), (.int .i64 (a14)), (.int .i64 (a15)), (.int .i64 (a16)), (.int .i64 (a17)), (.int .i64 (a18)), (.int .i64 (a19)), (.int .i64 (a20))])] =
 (go k impl_StateOk [(.agg [(.int .i64 (a0)), (.arr false (a1z) (.r3 (a1))), (.arr false (a2z) (.ints .i64 (a2))), (.arr false (a3z) (.ints .i64 (a3))), (.arr false (a4z) (.ints .i64 (a4)))])]).bind fun r0 =>
 cond (bit (nth r0 0))
 ((go k impl_PlanOk [(.agg [(.int .i64 (a5)), (.int .i64 (a6)), (.int .i64 (a7)), (.int .i64 (a8)), (.int .i64 (a9)), (.int .i64 (a10)), (.int .i64 (a11)), (.int .i64 (a12)), (.int .i64 (a13))])]).bind fun r1 =>
 cond (bit (nth r1 0))
 ((go k impl_within [(.int .i64 (a14)), (.int .i64 (0 : Int)), (.int .i64 ((100000 : Int)))]).bind fun r2 =>
 cond (bit (nth r2 0))
 ((go k impl_ledgerOk [(.agg [(.int .i64 (a15)), (.int .i64 (a16)), (.int .i64 (a17)), (.int .i64 (a18))])]).bind fun r3 =>
 cond (bit (nth r3 0))
 ((go k impl_sum [(.arr false (a2z) (.ints .i64 (a2)))]).bind fun r4 =>
 cond (decide (a19 = IntKind.wrap .i64 (IntKind.wrap .i64 (D.toInt (nth r4 0) - a15) + a16)))
 ((go k impl_sum [(.arr false (a3z) (.ints .i64 (a3)))]).bind fun r5 =>
 some [(.bool (decide (a20 = IntKind.wrap .i64 (IntKind.wrap .i64 (D.toInt (nth r5 0) - a17) + a18))))])
 (some [(.bool (false))]))
 (some [(.bool (false))]))
 (some [(.bool (false))]))
 (some [(.bool (false))]))
 (some [(.bool (false))]) := by kernel_rfl

end Go.Proofs.YtjfjniebmdafeaaDoor
end
section
namespace Go.Proofs.YtjfjniebmdafeaaDoor
open Go.Ev
theorem qfv (k : Nat) (a0 a1 a2 : Int) : go (k + 1) spec_BorderOk [(.agg [(.int .i64 (a0)), (.int .i64 (a1)), (.int .i64 (a2))])] =
 (go k spec_l01In [(.int .i64 (a0)), (.int .i64 (0 : Int)), (.int .i64 ((10000 : Int)))]).bind fun r0 =>
 cond (bit (nth r0 0))
 ((go k spec_l01In [(.int .i64 (a1)), (.int .i64 (0 : Int)), (.int .i64 ((1000 : Int)))]).bind fun r1 =>
 cond (bit (nth r1 0))
 ((go k spec_l01In [(.int .i64 (a2)), (.int .i64 (0 : Int)), (.int .i64 ((250 : Int)))]).bind fun r2 =>
 some [(.bool (bit (nth r2 0)))])
 (some [(.bool (false))]))
 (some [(.bool (false))]) := by kernel_rfl
theorem qd2 (k : Nat) (a0 a1 a2 : Int) : go (k + 1) impl_BorderOk [(.agg [(.int .i64 (a0)), (.int .i64 (a1)), (.int .i64 (a2))])] =
 (go k impl_within [(.int .i64 (a0)), (.int .i64 (0 : Int)), (.int .i64 ((10000 : Int)))]).bind fun r0 =>
 cond (bit (nth r0 0))
 ((go k impl_within [(.int .i64 (a1)), (.int .i64 (0 : Int)), (.int .i64 ((1000 : Int)))]).bind fun r1 =>
 cond (bit (nth r1 0))
 ((go k impl_within [(.int .i64 (a2)), (.int .i64 (0 : Int)), (.int .i64 ((250 : Int)))]).bind fun r2 =>
 some [(.bool (bit (nth r2 0)))])
 (some [(.bool (false))]))
 (some [(.bool (false))]) := by kernel_rfl
theorem qeq (k : Nat) (a : Int) : go (k + 1) impl_isRain [(.int .i64 (a))] =
 (go k impl_within [(.int .i64 (a)), (.int .i64 (0 : Int)), (.int .i64 ((10000 : Int)))]).bind fun r0 =>
 some [(.bool (bit (nth r0 0)))] := by kernel_rfl
theorem qer (k : Nat) (a : Int) : go (k + 1) impl_isRate [(.int .i64 (a))] =
 (go k impl_within [(.int .i64 (a)), (.int .i64 (0 : Int)), (.int .i64 ((1000 : Int)))]).bind fun r0 =>
 some [(.bool (bit (nth r0 0)))] := by kernel_rfl
theorem qf3 (k : Nat) (a0 a1 a2 a3 a4 a5 a6 a7 a8 : Int) : go (k + 1) spec_PlanOk [(.agg [(.int .i64 (a0)), (.int .i64 (a1)), (.int .i64 (a2)), (.int .i64 (a3)), (.int .i64 (a4)), (.int .i64 (a5)), (.int .i64 (a6)), (.int .i64 (a7)), (.int .i64 (a8))])] =
 (go k spec_BorderOk [(.agg [(.int .i64 (a0)), (.int .i64 (a1)), (.int .i64 (a2))])]).bind fun r0 =>
 cond (bit (nth r0 0))
 ((go k spec_l01In [(.int .i64 (a3)), (.int .i64 (0 : Int)), (.int .i64 ((10000 : Int)))]).bind fun r1 =>
 cond (bit (nth r1 0))
 ((go k spec_l01In [(.int .i64 (a4)), (.int .i64 (0 : Int)), (.int .i64 ((10000 : Int)))]).bind fun r2 =>
 cond (bit (nth r2 0))
 ((go k spec_l01In [(.int .i64 (a5)), (.int .i64 (0 : Int)), (.int .i64 ((1000 : Int)))]).bind fun r3 =>
 cond (bit (nth r3 0))
 ((go k spec_l01In [(.int .i64 (a6)), (.int .i64 (0 : Int)), (.int .i64 ((1000000 : Int)))]).bind fun r4 =>
 cond (bit (nth r4 0))
 ((go k spec_l01In [(.int .i64 (a7)), (.int .i64 (0 : Int)), (.int .i64 ((1000000 : Int)))]).bind fun r5 =>
 cond (bit (nth r5 0))
 ((go k spec_l01In [(.int .i64 (a8)), (.int .i64 (0 : Int)), (.int .i64 ((100 : Int)))]).bind fun r6 =>
 some [(.bool (bit (nth r6 0)))])
 (some [(.bool (false))]))
 (some [(.bool (false))]))
 (some [(.bool (false))]))
 (some [(.bool (false))]))
 (some [(.bool (false))]))
 (some [(.bool (false))]) := by kernel_rfl
theorem qeb (k : Nat) (a0 a1 a2 a3 a4 a5 a6 a7 a8 : Int) : go (k + 1) impl_PlanOk [(.agg [(.int .i64 (a0)), (.int .i64 (a1)), (.int .i64 (a2)), (.int .i64 (a3)), (.int .i64 (a4)), (.int .i64 (a5)), (.int .i64 (a6)), (.int .i64 (a7)), (.int .i64 (a8))])] =
 (go k impl_BorderOk [(.agg [(.int .i64 (a0)), (.int .i64 (a1)), (.int .i64 (a2))])]).bind fun r0 =>
 cond (bit (nth r0 0))
 ((go k impl_isRain [(.int .i64 (a3))]).bind fun r1 =>
 cond (bit (nth r1 0))
 ((go k impl_isRain [(.int .i64 (a4))]).bind fun r2 =>
 cond (bit (nth r2 0))
 ((go k impl_isRate [(.int .i64 (a5))]).bind fun r3 =>
 cond (bit (nth r3 0))
 ((go k impl_within [(.int .i64 (a6)), (.int .i64 (0 : Int)), (.int .i64 ((1000000 : Int)))]).bind fun r4 =>
 cond (bit (nth r4 0))
 ((go k impl_within [(.int .i64 (a7)), (.int .i64 (0 : Int)), (.int .i64 ((1000000 : Int)))]).bind fun r5 =>
 cond (bit (nth r5 0))
 ((go k impl_within [(.int .i64 (a8)), (.int .i64 (0 : Int)), (.int .i64 ((100 : Int)))]).bind fun r6 =>
 some [(.bool (bit (nth r6 0)))])
 (some [(.bool (false))]))
 (some [(.bool (false))]))
 (some [(.bool (false))]))
 (some [(.bool (false))]))
 (some [(.bool (false))]))
 (some [(.bool (false))]) := by kernel_rfl
theorem qgd (k : Nat) (a : Int) : go (k + 1) spec_l36Amount [(.int .i64 (a))] =
 (go k spec_l01In [(.int .i64 (a)), (.int .i64 (0 : Int)), (.int .i64 ((1000000000000000 : Int)))]).bind fun r0 =>
 some [(.bool (bit (nth r0 0)))] := by kernel_rfl
theorem qes (k : Nat) (a0 a1 a2 a3 : Int) : go (k + 1) impl_ledgerOk [(.agg [(.int .i64 (a0)), (.int .i64 (a1)), (.int .i64 (a2)), (.int .i64 (a3))])] =
 (go k impl_within [(.int .i64 (a0)), (.int .i64 (0 : Int)), (.int .i64 ((1000000000000000 : Int)))]).bind fun r0 =>
 cond (bit (nth r0 0))
 ((go k impl_within [(.int .i64 (a1)), (.int .i64 (0 : Int)), (.int .i64 ((1000000000000000 : Int)))]).bind fun r1 =>
 cond (bit (nth r1 0))
 ((go k impl_within [(.int .i64 (a2)), (.int .i64 (0 : Int)), (.int .i64 ((1000000000000000 : Int)))]).bind fun r2 =>
 cond (bit (nth r2 0))
 ((go k impl_within [(.int .i64 (a3)), (.int .i64 (0 : Int)), (.int .i64 ((1000000000000000 : Int)))]).bind fun r3 =>
 some [(.bool (bit (nth r3 0)))])
 (some [(.bool (false))]))
 (some [(.bool (false))]))
 (some [(.bool (false))]) := by kernel_rfl
end Go.Proofs.YtjfjniebmdafeaaDoor
end
section
namespace Go.Proofs.YtjfjniebmdafeaaDoor
open Go.Ev
def qal (a b c : Int) : Bool := inR a 0 10000 && (inR b 0 1000 && inR c 0 250)
theorem qcg (k : Nat) (hk : 2000000 ≤ k) (a0 : Int) (a1 : Int) (a2 : Int) : go (k + 2) spec_BorderOk [(.agg [(.int .i64 (a0)), (.int .i64 (a1)), (.int .i64 (a2))])] = some [.bool (qal a0 a1 a2)] := by
  rw [qfv]
  simp (disch := omega) only [qai, nth0, nth1, nth2, nth3, bit, qc1, qc2, qdd, qdi, qdj, qdk, qdl, qdm, qdn, qdo, qc3, qc4, qc5, qc6, qc7, qc8, qc9, qda, qdb, qdc, qde, qdf, qdg, qdh, qky, qkx, qkz, qjb, qjk, qjm, qgx, qak, qku, nI, qdt, qdr, Bool.not_true, Bool.not_false, Bool.and_true, Bool.true_and, Bool.and_false, Bool.false_and, Bool.or_true, Bool.true_or, Bool.or_false, Bool.false_or, beq_self_eq_true, dTT, dFF, dT, dF, bigI, big0, qja, qk8, qk9, List.length_set, List.length_replicate, Int.toNat_natCast, qcz, qc0, imax, imin, qcu, qdv]
  rfl
theorem qao (k : Nat) (hk : 2000000 ≤ k) (a0 : Int) (a1 : Int) (a2 : Int) : go (k + 2) impl_BorderOk [(.agg [(.int .i64 (a0)), (.int .i64 (a1)), (.int .i64 (a2))])] = some [.bool (qal a0 a1 a2)] := by
  rw [qd2]
  simp (disch := omega) only [qai, nth0, nth1, nth2, nth3, bit, qc1, qc2, qdd, qdi, qdj, qdk, qdl, qdm, qdn, qdo, qc3, qc4, qc5, qc6, qc7, qc8, qc9, qda, qdb, qdc, qde, qdf, qdg, qdh, qky, qkx, qkz, qjb, qjk, qjm, qgx, qak, qku, nI, qdt, qdr, Bool.not_true, Bool.not_false, Bool.and_true, Bool.true_and, Bool.and_false, Bool.false_and, Bool.or_true, Bool.true_or, Bool.or_false, Bool.false_or, beq_self_eq_true, dTT, dFF, dT, dF, bigI, big0, qja, qk8, qk9, List.length_set, List.length_replicate, Int.toNat_natCast, qcz, qc0, imax, imin, qbi, qdv]
  rfl
theorem qbc (k : Nat) (hk : 2000000 ≤ k) (a : Int) : go (k + 2) impl_isRain [(.int .i64 (a))] = some [.bool (inR a 0 10000)] := by
  rw [qeq]
  simp (disch := omega) only [qai, nth0, nth1, nth2, nth3, bit, qc1, qc2, qdd, qdi, qdj, qdk, qdl, qdm, qdn, qdo, qc3, qc4, qc5, qc6, qc7, qc8, qc9, qda, qdb, qdc, qde, qdf, qdg, qdh, qky, qkx, qkz, qjb, qjk, qjm, qgx, qak, qku, nI, qdt, qdr, Bool.not_true, Bool.not_false, Bool.and_true, Bool.true_and, Bool.and_false, Bool.false_and, Bool.or_true, Bool.true_or, Bool.or_false, Bool.false_or, beq_self_eq_true, dTT, dFF, dT, dF, bigI, big0, qja, qk8, qk9, List.length_set, List.length_replicate, Int.toNat_natCast, qcz, qc0, imax, imin, qbi]
theorem qbd (k : Nat) (hk : 2000000 ≤ k) (a : Int) : go (k + 2) impl_isRate [(.int .i64 (a))] = some [.bool (inR a 0 1000)] := by
  rw [qer]
  simp (disch := omega) only [qai, nth0, nth1, nth2, nth3, bit, qc1, qc2, qdd, qdi, qdj, qdk, qdl, qdm, qdn, qdo, qc3, qc4, qc5, qc6, qc7, qc8, qc9, qda, qdb, qdc, qde, qdf, qdg, qdh, qky, qkx, qkz, qjb, qjk, qjm, qgx, qak, qku, nI, qdt, qdr, Bool.not_true, Bool.not_false, Bool.and_true, Bool.true_and, Bool.and_false, Bool.false_and, Bool.or_true, Bool.true_or, Bool.or_false, Bool.false_or, beq_self_eq_true, dTT, dFF, dT, dF, bigI, big0, qja, qk8, qk9, List.length_set, List.length_replicate, Int.toNat_natCast, qcz, qc0, imax, imin, qbi]
def qji (a0 a1 a2 a3 a4 a5 a6 a7 a8 : Int) : Bool := qal a0 a1 a2 && (inR a3 0 10000 && (inR a4 0 10000 && (inR a5 0 1000 && (inR a6 0 1000000 && (inR a7 0 1000000 && inR a8 0 100)))))
theorem qcp (k : Nat) (hk : 2000000 ≤ k) (a0 : Int) (a1 : Int) (a2 : Int) (a3 : Int) (a4 : Int) (a5 : Int) (a6 : Int) (a7 : Int) (a8 : Int) : go (k + 3) spec_PlanOk [(.agg [(.int .i64 (a0)), (.int .i64 (a1)), (.int .i64 (a2)), (.int .i64 (a3)), (.int .i64 (a4)), (.int .i64 (a5)), (.int .i64 (a6)), (.int .i64 (a7)), (.int .i64 (a8))])] = some [.bool (qji a0 a1 a2 a3 a4 a5 a6 a7 a8)] := by
  rw [qf3]
  simp (disch := omega) only [qai, nth0, nth1, nth2, nth3, bit, qc1, qc2, qdd, qdi, qdj, qdk, qdl, qdm, qdn, qdo, qc3, qc4, qc5, qc6, qc7, qc8, qc9, qda, qdb, qdc, qde, qdf, qdg, qdh, qky, qkx, qkz, qjb, qjk, qjm, qgx, qak, qku, nI, qdt, qdr, Bool.not_true, Bool.not_false, Bool.and_true, Bool.true_and, Bool.and_false, Bool.false_and, Bool.or_true, Bool.true_or, Bool.or_false, Bool.false_or, beq_self_eq_true, dTT, dFF, dT, dF, bigI, big0, qja, qk8, qk9, List.length_set, List.length_replicate, Int.toNat_natCast, qcz, qc0, imax, imin, qcu, qcg, qdv]
  rfl
theorem qax (k : Nat) (hk : 2000000 ≤ k) (a0 : Int) (a1 : Int) (a2 : Int) (a3 : Int) (a4 : Int) (a5 : Int) (a6 : Int) (a7 : Int) (a8 : Int) : go (k + 3) impl_PlanOk [(.agg [(.int .i64 (a0)), (.int .i64 (a1)), (.int .i64 (a2)), (.int .i64 (a3)), (.int .i64 (a4)), (.int .i64 (a5)), (.int .i64 (a6)), (.int .i64 (a7)), (.int .i64 (a8))])] = some [.bool (qji a0 a1 a2 a3 a4 a5 a6 a7 a8)] := by
  rw [qeb]
  simp (disch := omega) only [qai, nth0, nth1, nth2, nth3, bit, qc1, qc2, qdd, qdi, qdj, qdk, qdl, qdm, qdn, qdo, qc3, qc4, qc5, qc6, qc7, qc8, qc9, qda, qdb, qdc, qde, qdf, qdg, qdh, qky, qkx, qkz, qjb, qjk, qjm, qgx, qak, qku, nI, qdt, qdr, Bool.not_true, Bool.not_false, Bool.and_true, Bool.true_and, Bool.and_false, Bool.false_and, Bool.or_true, Bool.true_or, Bool.or_false, Bool.false_or, beq_self_eq_true, dTT, dFF, dT, dF, bigI, big0, qja, qk8, qk9, List.length_set, List.length_replicate, Int.toNat_natCast, qcz, qc0, imax, imin, qbi, qao, qbc, qbd, qdv]
  rfl
end Go.Proofs.YtjfjniebmdafeaaDoor
end
section
namespace Go.Proofs.YtjfjniebmdafeaaDoor
open Go.Ev
theorem qfk (k : Nat) (a0 a1 a2 : Int) : go (k + 1) laws_toBorder [(.agg [(.int .i64 (a0)), (.int .i64 (a1)), (.int .i64 (a2))])] =
 some [(.agg [(.int .i64 (a0)), (.int .i64 (a1)), (.int .i64 (a2))])] := by kernel_rfl
theorem qfq (k : Nat) (a0 a1 a2 a3 a4 a5 a6 a7 a8 : Int) : go (k + 1) laws_toPlan [(.agg [(.int .i64 (a0)), (.int .i64 (a1)), (.int .i64 (a2)), (.int .i64 (a3)), (.int .i64 (a4)), (.int .i64 (a5)), (.int .i64 (a6)), (.int .i64 (a7)), (.int .i64 (a8))])] =
 (go k laws_toBorder [(.agg [(.int .i64 (a0)), (.int .i64 (a1)), (.int .i64 (a2))])]).bind fun r0 =>
 some [(.agg [(.int .i64 (D.toInt (D.cell 0 (nth r0 0)))), (.int .i64 (D.toInt (D.cell 1 (nth r0 0)))), (.int .i64 (D.toInt (D.cell 2 (nth r0 0)))), (.int .i64 (a3)), (.int .i64 (a4)), (.int .i64 (a5)), (.int .i64 (a6)), (.int .i64 (a7)), (.int .i64 (a8))])] := by kernel_rfl
theorem qfs (k : Nat) (a0 : Int) (a1z : Bool) (a1 : List (Int × Int × Int)) (a2z : Bool) (a2 : List Int) (a3z : Bool) (a3 : List Int) (a4z : Bool) (a4 : List Int) (a5 a6 a7 a8 a9 a10 a11 a12 a13 a14 a15 a16 a17 a18 a19 a20 : Int) : go (k + 1) laws_toWorld [(.agg [(.int .i64 (a0)), (.arr false (a1z) (.r3 (a1))), (.arr false (a2z) (.ints .i64 (a2))), (.arr false (a3z) (.ints .i64 (a3))), (.arr false (a4z) (.ints .i64 (a4))), (.int .i64 (a5)), (.int .i64 (a6)), (.int .i64 (a7)), (.int .i64 (a8)), (.int .i64 (a9)), (.int .i64 (a10)), (.int .i64 (a11)), (.int .i64 (a12)), (.int .i64 (a13)), (.int .i64 (a14)), (.int .i64 (a15)), (.int .i64 (a16)), (.int .i64 (a17)), (.int .i64 (a18)), (.int .i64 (a19)), (.int .i64 (a20))])] =
 (go k laws_toState [(.agg [(.int .i64 (a0)), (.arr false (a1z) (.r3 (a1))), (.arr false (a2z) (.ints .i64 (a2))), (.arr false (a3z) (.ints .i64 (a3))), (.arr false (a4z) (.ints .i64 (a4)))])]).bind fun r0 =>
 (go k laws_toPlan [(.agg [(.int .i64 (a5)), (.int .i64 (a6)), (.int .i64 (a7)), (.int .i64 (a8)), (.int .i64 (a9)), (.int .i64 (a10)), (.int .i64 (a11)), (.int .i64 (a12)), (.int .i64 (a13))])]).bind fun r1 =>
 (go k laws_toLedger [(.agg [(.int .i64 (a15)), (.int .i64 (a16)), (.int .i64 (a17)), (.int .i64 (a18))])]).bind fun r2 =>
 some [(.agg [(.int .i64 (D.toInt (D.cell 0 (nth r0 0)))), (.arr true (D.nil (D.cell 1 (nth r0 0))) (.r3 (D.r3 (D.cell 1 (nth r0 0))))), (.arr true (D.nil (D.cell 2 (nth r0 0))) (.ints .i64 (D.ints (D.cell 2 (nth r0 0))))), (.arr true (D.nil (D.cell 3 (nth r0 0))) (.ints .i64 (D.ints (D.cell 3 (nth r0 0))))), (.arr true (D.nil (D.cell 4 (nth r0 0))) (.ints .i64 (D.ints (D.cell 4 (nth r0 0))))), (.int .i64 (D.toInt (D.cell 0 (nth r1 0)))), (.int .i64 (D.toInt (D.cell 1 (nth r1 0)))), (.int .i64 (D.toInt (D.cell 2 (nth r1 0)))), (.int .i64 (D.toInt (D.cell 3 (nth r1 0)))), (.int .i64 (D.toInt (D.cell 4 (nth r1 0)))), (.int .i64 (D.toInt (D.cell 5 (nth r1 0)))), (.int .i64 (D.toInt (D.cell 6 (nth r1 0)))), (.int .i64 (D.toInt (D.cell 7 (nth r1 0)))), (.int .i64 (D.toInt (D.cell 8 (nth r1 0)))), (.int .i64 (a14)), (.int .i64 (D.toInt (D.cell 0 (nth r2 0)))), (.int .i64 (D.toInt (D.cell 1 (nth r2 0)))), (.int .i64 (D.toInt (D.cell 2 (nth r2 0)))), (.int .i64 (D.toInt (D.cell 3 (nth r2 0)))), (.int .i64 (a19)), (.int .i64 (a20))])] := by kernel_rfl
theorem qfj (k : Nat) (a0 : Int) (a1z : Bool) (a1 : List (Int × Int × Int)) (a2z : Bool) (a2 : List Int) (a3z : Bool) (a3 : List Int) (a4z : Bool) (a4 : List Int) (a5 a6 a7 a8 a9 a10 a11 a12 a13 a14 a15 a16 a17 a18 a19 a20 b : Int) : go (k + 1) laws_szWorld [(.agg [(.int .i64 (a0)), (.arr false (a1z) (.r3 (a1))), (.arr false (a2z) (.ints .i64 (a2))), (.arr false (a3z) (.ints .i64 (a3))), (.arr false (a4z) (.ints .i64 (a4))), (.int .i64 (a5)), (.int .i64 (a6)), (.int .i64 (a7)), (.int .i64 (a8)), (.int .i64 (a9)), (.int .i64 (a10)), (.int .i64 (a11)), (.int .i64 (a12)), (.int .i64 (a13)), (.int .i64 (a14)), (.int .i64 (a15)), (.int .i64 (a16)), (.int .i64 (a17)), (.int .i64 (a18)), (.int .i64 (a19)), (.int .i64 (a20))]), (.int .i64 (b))] =
 (go k laws_szState [(.agg [(.int .i64 (a0)), (.arr false (a1z) (.r3 (a1))), (.arr false (a2z) (.ints .i64 (a2))), (.arr false (a3z) (.ints .i64 (a3))), (.arr false (a4z) (.ints .i64 (a4)))]), (.int .i64 (b))]).bind fun r0 =>
 cond (decide (D.toInt (nth r0 0) < (0 : Int)))
 (some [(.int .i64 ((-1 : Int)))])
 (some [(.int .i64 (D.toInt (nth r0 0)))]) := by kernel_rfl
theorem qex (k : Nat) (a0 a1 a2 b0 b1 b2 : Int) : go (k + 1) laws_eqBorder [(.agg [(.int .i64 (a0)), (.int .i64 (a1)), (.int .i64 (a2))]), (.agg [(.int .i64 (b0)), (.int .i64 (b1)), (.int .i64 (b2))])] =
 cond (!decide (a0 = b0))
 (some [(.bool (false))])
 (cond (!decide (a1 = b1))
 (some [(.bool (false))])
 (cond (!decide (a2 = b2))
 (some [(.bool (false))])
 (some [(.bool (true))]))) := by kernel_rfl
theorem qe3 (k : Nat) (a0 a1 a2 a3 a4 a5 a6 a7 a8 b0 b1 b2 b3 b4 b5 b6 b7 b8 : Int) : go (k + 1) laws_eqPlan [(.agg [(.int .i64 (a0)), (.int .i64 (a1)), (.int .i64 (a2)), (.int .i64 (a3)), (.int .i64 (a4)), (.int .i64 (a5)), (.int .i64 (a6)), (.int .i64 (a7)), (.int .i64 (a8))]), (.agg [(.int .i64 (b0)), (.int .i64 (b1)), (.int .i64 (b2)), (.int .i64 (b3)), (.int .i64 (b4)), (.int .i64 (b5)), (.int .i64 (b6)), (.int .i64 (b7)), (.int .i64 (b8))])] =
 (go k laws_eqBorder [(.agg [(.int .i64 (a0)), (.int .i64 (a1)), (.int .i64 (a2))]), (.agg [(.int .i64 (b0)), (.int .i64 (b1)), (.int .i64 (b2))])]).bind fun r0 =>
 cond (!bit (nth r0 0))
 (some [(.bool (false))])
 (cond (!decide (a3 = b3))
 (some [(.bool (false))])
 (cond (!decide (a4 = b4))
 (some [(.bool (false))])
 (cond (!decide (a5 = b5))
 (some [(.bool (false))])
 (cond (!decide (a6 = b6))
 (some [(.bool (false))])
 (cond (!decide (a7 = b7))
 (some [(.bool (false))])
 (cond (!decide (a8 = b8))
 (some [(.bool (false))])
 (some [(.bool (true))]))))))) := by kernel_rfl
theorem qe1 (k : Nat) (a0 a1 a2 a3 b0 b1 b2 b3 : Int) : go (k + 1) laws_eqLedger [(.agg [(.int .i64 (a0)), (.int .i64 (a1)), (.int .i64 (a2)), (.int .i64 (a3))]), (.agg [(.int .i64 (b0)), (.int .i64 (b1)), (.int .i64 (b2)), (.int .i64 (b3))])] =
 cond (!decide (a0 = b0))
 (some [(.bool (false))])
 (cond (!decide (a1 = b1))
 (some [(.bool (false))])
 (cond (!decide (a2 = b2))
 (some [(.bool (false))])
 (cond (!decide (a3 = b3))
 (some [(.bool (false))])
 (some [(.bool (true))])))) := by kernel_rfl
theorem qe6 (k : Nat) (a0 : Int) (a1z : Bool) (a1 : List (Int × Int × Int)) (a2z : Bool) (a2 : List Int) (a3z : Bool) (a3 : List Int) (a4z : Bool) (a4 : List Int) (a5 a6 a7 a8 a9 a10 a11 a12 a13 a14 a15 a16 a17 a18 a19 a20 b0 : Int) (b1z : Bool) (b1 : List (Int × Int × Int)) (b2z : Bool) (b2 : List Int) (b3z : Bool) (b3 : List Int) (b4z : Bool) (b4 : List Int) (b5 b6 b7 b8 b9 b10 b11 b12 b13 b14 b15 b16 b17 b18 b19 b20 : Int) : go (k + 1) laws_eqWorld [(.agg [(.int .i64 (a0)), (.arr false (a1z) (.r3 (a1))), (.arr false (a2z) (.ints .i64 (a2))), (.arr false (a3z) (.ints .i64 (a3))), (.arr false (a4z) (.ints .i64 (a4))), (.int .i64 (a5)), (.int .i64 (a6)), (.int .i64 (a7)), (.int .i64 (a8)), (.int .i64 (a9)), (.int .i64 (a10)), (.int .i64 (a11)), (.int .i64 (a12)), (.int .i64 (a13)), (.int .i64 (a14)), (.int .i64 (a15)), (.int .i64 (a16)), (.int .i64 (a17)), (.int .i64 (a18)), (.int .i64 (a19)), (.int .i64 (a20))]), (.agg [(.int .i64 (b0)), (.arr false (b1z) (.r3 (b1))), (.arr false (b2z) (.ints .i64 (b2))), (.arr false (b3z) (.ints .i64 (b3))), (.arr false (b4z) (.ints .i64 (b4))), (.int .i64 (b5)), (.int .i64 (b6)), (.int .i64 (b7)), (.int .i64 (b8)), (.int .i64 (b9)), (.int .i64 (b10)), (.int .i64 (b11)), (.int .i64 (b12)), (.int .i64 (b13)), (.int .i64 (b14)), (.int .i64 (b15)), (.int .i64 (b16)), (.int .i64 (b17)), (.int .i64 (b18)), (.int .i64 (b19)), (.int .i64 (b20))])] =
 (go k laws_eqState [(.agg [(.int .i64 (a0)), (.arr false (a1z) (.r3 (a1))), (.arr false (a2z) (.ints .i64 (a2))), (.arr false (a3z) (.ints .i64 (a3))), (.arr false (a4z) (.ints .i64 (a4)))]), (.agg [(.int .i64 (b0)), (.arr false (b1z) (.r3 (b1))), (.arr false (b2z) (.ints .i64 (b2))), (.arr false (b3z) (.ints .i64 (b3))), (.arr false (b4z) (.ints .i64 (b4)))])]).bind fun r0 =>
 cond (!bit (nth r0 0))
 (some [(.bool (false))])
 ((go k laws_eqPlan [(.agg [(.int .i64 (a5)), (.int .i64 (a6)), (.int .i64 (a7)), (.int .i64 (a8)), (.int .i64 (a9)), (.int .i64 (a10)), (.int .i64 (a11)), (.int .i64 (a12)), (.int .i64 (a13))]), (.agg [(.int .i64 (b5)), (.int .i64 (b6)), (.int .i64 (b7)), (.int .i64 (b8)), (.int .i64 (b9)), (.int .i64 (b10)), (.int .i64 (b11)), (.int .i64 (b12)), (.int .i64 (b13))])]).bind fun r1 =>
 cond (!bit (nth r1 0))
 (some [(.bool (false))])
 (cond (!decide (a14 = b14))
 (some [(.bool (false))])
 ((go k laws_eqLedger [(.agg [(.int .i64 (a15)), (.int .i64 (a16)), (.int .i64 (a17)), (.int .i64 (a18))]), (.agg [(.int .i64 (b15)), (.int .i64 (b16)), (.int .i64 (b17)), (.int .i64 (b18))])]).bind fun r2 =>
 cond (!bit (nth r2 0))
 (some [(.bool (false))])
 (cond (!decide (a19 = b19))
 (some [(.bool (false))])
 (cond (!decide (a20 = b20))
 (some [(.bool (false))])
 (some [(.bool (true))])))))) := by kernel_rfl
theorem qfe (k : Nat) (a0 : Int) (a1z : Bool) (a1 : List (Int × Int × Int)) (a2z : Bool) (a2 : List Int) (a3z : Bool) (a3 : List Int) (a4z : Bool) (a4 : List Int) (a5 a6 a7 a8 a9 a10 a11 a12 a13 a14 a15 a16 a17 a18 a19 a20 b : Int) : go (k + 1) laws_markWorld [(.agg [(.int .i64 (a0)), (.arr true (a1z) (.r3 (a1))), (.arr true (a2z) (.ints .i64 (a2))), (.arr true (a3z) (.ints .i64 (a3))), (.arr true (a4z) (.ints .i64 (a4))), (.int .i64 (a5)), (.int .i64 (a6)), (.int .i64 (a7)), (.int .i64 (a8)), (.int .i64 (a9)), (.int .i64 (a10)), (.int .i64 (a11)), (.int .i64 (a12)), (.int .i64 (a13)), (.int .i64 (a14)), (.int .i64 (a15)), (.int .i64 (a16)), (.int .i64 (a17)), (.int .i64 (a18)), (.int .i64 (a19)), (.int .i64 (a20))]), (.int .i64 (b))] =
 (go k laws_markState [(.agg [(.int .i64 (a0)), (.arr true (a1z) (.r3 (a1))), (.arr true (a2z) (.ints .i64 (a2))), (.arr true (a3z) (.ints .i64 (a3))), (.arr true (a4z) (.ints .i64 (a4)))]), (.int .i64 (b))]).bind fun r0 =>
 some [(.int .i64 (D.toInt (nth r0 0))), (.agg [(.int .i64 (a0)), (.arr true (a1z) (.r3 (D.r3 (D.cell 1 (nth r0 1))))), (.arr true (a2z) (.ints .i64 (D.ints (D.cell 2 (nth r0 1))))), (.arr true (a3z) (.ints .i64 (D.ints (D.cell 3 (nth r0 1))))), (.arr true (a4z) (.ints .i64 (D.ints (D.cell 4 (nth r0 1))))), (.int .i64 (a5)), (.int .i64 (a6)), (.int .i64 (a7)), (.int .i64 (a8)), (.int .i64 (a9)), (.int .i64 (a10)), (.int .i64 (a11)), (.int .i64 (a12)), (.int .i64 (a13)), (.int .i64 (a14)), (.int .i64 (a15)), (.int .i64 (a16)), (.int .i64 (a17)), (.int .i64 (a18)), (.int .i64 (a19)), (.int .i64 (a20))])] := by kernel_rfl

end Go.Proofs.YtjfjniebmdafeaaDoor
end
section
namespace Go.Proofs.YtjfjniebmdafeaaDoor
open Go.Ev
theorem qfr (k : Nat) (a0 : Int) (a1z : Bool) (a1 : List (Int × Int × Int)) (a2z : Bool) (a2 : List Int) (a3z : Bool) (a3 : List Int) (a4z : Bool) (a4 : List Int) : go (k + 1) laws_toState [(.agg [(.int .i64 (a0)), (.arr false (a1z) (.r3 (a1))), (.arr false (a2z) (.ints .i64 (a2))), (.arr false (a3z) (.ints .i64 (a3))), (.arr false (a4z) (.ints .i64 (a4)))])] =
 (go k laws_toMesh [(.agg [(.int .i64 (a0)), (.arr false (a1z) (.r3 (a1)))])]).bind fun r0 =>
 (go k laws_toIntS [(.arr false (a2z) (.ints .i64 (a2)))]).bind fun r1 =>
 (go k laws_toIntS [(.arr false (a3z) (.ints .i64 (a3)))]).bind fun r2 =>
 (go k laws_toIntS [(.arr false (a4z) (.ints .i64 (a4)))]).bind fun r3 =>
 some [(.agg [(.int .i64 (D.toInt (D.cell 0 (nth r0 0)))), (.arr true (D.nil (D.cell 1 (nth r0 0))) (.r3 (D.r3 (D.cell 1 (nth r0 0))))), (.arr true (D.nil (nth r1 0)) (.ints .i64 (D.ints (nth r1 0)))), (.arr true (D.nil (nth r2 0)) (.ints .i64 (D.ints (nth r2 0)))), (.arr true (D.nil (nth r3 0)) (.ints .i64 (D.ints (nth r3 0))))])] := by kernel_rfl
theorem qfi (k : Nat) (a0 : Int) (a1z : Bool) (a1 : List (Int × Int × Int)) (a2z : Bool) (a2 : List Int) (a3z : Bool) (a3 : List Int) (a4z : Bool) (a4 : List Int) (b : Int) : go (k + 1) laws_szState [(.agg [(.int .i64 (a0)), (.arr false (a1z) (.r3 (a1))), (.arr false (a2z) (.ints .i64 (a2))), (.arr false (a3z) (.ints .i64 (a3))), (.arr false (a4z) (.ints .i64 (a4)))]), (.int .i64 (b))] =
 (go k laws_szMesh [(.agg [(.int .i64 (a0)), (.arr false (a1z) (.r3 (a1)))]), (.int .i64 (b))]).bind fun r0 =>
 cond (decide (D.toInt (nth r0 0) < (0 : Int)))
 (some [(.int .i64 ((-1 : Int)))])
 ((go k laws_szIntS [(.arr false (a2z) (.ints .i64 (a2))), (.int .i64 (D.toInt (nth r0 0)))]).bind fun r1 =>
 cond (decide (D.toInt (nth r1 0) < (0 : Int)))
 (some [(.int .i64 ((-1 : Int)))])
 ((go k laws_szIntS [(.arr false (a3z) (.ints .i64 (a3))), (.int .i64 (D.toInt (nth r1 0)))]).bind fun r2 =>
 cond (decide (D.toInt (nth r2 0) < (0 : Int)))
 (some [(.int .i64 ((-1 : Int)))])
 ((go k laws_szIntS [(.arr false (a4z) (.ints .i64 (a4))), (.int .i64 (D.toInt (nth r2 0)))]).bind fun r3 =>
 cond (decide (D.toInt (nth r3 0) < (0 : Int)))
 (some [(.int .i64 ((-1 : Int)))])
 (some [(.int .i64 (D.toInt (nth r3 0)))])))) := by kernel_rfl
theorem qe4 (k : Nat) (a0 : Int) (a1z : Bool) (a1 : List (Int × Int × Int)) (a2z : Bool) (a2 : List Int) (a3z : Bool) (a3 : List Int) (a4z : Bool) (a4 : List Int) (b0 : Int) (b1z : Bool) (b1 : List (Int × Int × Int)) (b2z : Bool) (b2 : List Int) (b3z : Bool) (b3 : List Int) (b4z : Bool) (b4 : List Int) : go (k + 1) laws_eqState [(.agg [(.int .i64 (a0)), (.arr false (a1z) (.r3 (a1))), (.arr false (a2z) (.ints .i64 (a2))), (.arr false (a3z) (.ints .i64 (a3))), (.arr false (a4z) (.ints .i64 (a4)))]), (.agg [(.int .i64 (b0)), (.arr false (b1z) (.r3 (b1))), (.arr false (b2z) (.ints .i64 (b2))), (.arr false (b3z) (.ints .i64 (b3))), (.arr false (b4z) (.ints .i64 (b4)))])] =
 (go k laws_eqMesh [(.agg [(.int .i64 (a0)), (.arr false (a1z) (.r3 (a1)))]), (.agg [(.int .i64 (b0)), (.arr false (b1z) (.r3 (b1)))])]).bind fun r0 =>
 cond (!bit (nth r0 0))
 (some [(.bool (false))])
 ((go k laws_eqIntS [(.arr false (a2z) (.ints .i64 (a2))), (.arr false (b2z) (.ints .i64 (b2)))]).bind fun r1 =>
 cond (!bit (nth r1 0))
 (some [(.bool (false))])
 ((go k laws_eqIntS [(.arr false (a3z) (.ints .i64 (a3))), (.arr false (b3z) (.ints .i64 (b3)))]).bind fun r2 =>
 cond (!bit (nth r2 0))
 (some [(.bool (false))])
 ((go k laws_eqIntS [(.arr false (a4z) (.ints .i64 (a4))), (.arr false (b4z) (.ints .i64 (b4)))]).bind fun r3 =>
 cond (!bit (nth r3 0))
 (some [(.bool (false))])
 (some [(.bool (true))])))) := by kernel_rfl
theorem qfb (k : Nat) (a0 : Int) (a1z : Bool) (a1 : List (Int × Int × Int)) (a2z : Bool) (a2 : List Int) (a3z : Bool) (a3 : List Int) (a4z : Bool) (a4 : List Int) (b : Int) : go (k + 1) laws_markState [(.agg [(.int .i64 (a0)), (.arr true (a1z) (.r3 (a1))), (.arr true (a2z) (.ints .i64 (a2))), (.arr true (a3z) (.ints .i64 (a3))), (.arr true (a4z) (.ints .i64 (a4)))]), (.int .i64 (b))] =
 (go k laws_markMesh [(.agg [(.int .i64 (a0)), (.arr true (a1z) (.r3 (a1)))]), (.int .i64 (b))]).bind fun r0 =>
 (go k laws_markIntS [(.arr true (a2z) (.ints .i64 (a2))), (.int .i64 (D.toInt (nth r0 0)))]).bind fun r1 =>
 (go k laws_markIntS [(.arr true (a3z) (.ints .i64 (a3))), (.int .i64 (D.toInt (nth r1 0)))]).bind fun r2 =>
 (go k laws_markIntS [(.arr true (a4z) (.ints .i64 (a4))), (.int .i64 (D.toInt (nth r2 0)))]).bind fun r3 =>
 some [(.int .i64 (D.toInt (nth r3 0))), (.agg [(.int .i64 (a0)), (.arr true (a1z) (.r3 (D.r3 (D.cell 1 (nth r0 1))))), (.arr true (a2z) (.ints .i64 (D.ints (nth r1 1)))), (.arr true (a3z) (.ints .i64 (D.ints (nth r2 1)))), (.arr true (a4z) (.ints .i64 (D.ints (nth r3 1))))])] := by kernel_rfl

end Go.Proofs.YtjfjniebmdafeaaDoor
end
