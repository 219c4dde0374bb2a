/- What the program's functions compute, and plain facts of it (part 1). No condition beyond those that each theorem states. -/
import Derived.Test.YtjfjniebmdafeaaDoorXA
import Derived.Shelf.Strings.Builder1
import Derived.Shelf.LaysM
import Derived.Shelf.Strconv.Itoa3
import Derived.Test.YtjfjniebmdafeaaDoorProg
import Derived.Test.YtjfjniebmdafeaaDoorSB
import Derived.WalkKit
import Derived.BigCall
import Derived.KernelRfl
import Derived.ProofKit
import Derived.Shelf.Strings.BuilderF
import Derived.Shelf.Strings.BuilderK
import Derived.Deep.QuietTactic
import Derived.BigQuiet
import Derived.Shelf.Strings.Fields
import Derived.Shelf.Strings.OnBuilder
import Derived.Shelf.LaysC
import Derived.Shelf.Strconv.AtoiAll
import Derived.Test.YtjfjniebmdafeaaDoorSC
import Derived.Lib.AtoiTie
set_option linter.unusedVariables false
set_option linter.unusedSimpArgs false
section
namespace Go.Proofs.YtjfjniebmdafeaaDoor
open Go.Ev
set_option maxRecDepth 20000
def qjr (x0 : ByteArray) (x1 : Bool) (x2 x3 : Int) (z4 : Bool) (l5 : List (Int × Int × Int × Int)) : St := ⟨fill 89 [(4, (.sl 0 none)), (5, (.str (x0))), (6, (.bool (x1))), (7, (.int .i64 (x2))), (8, (.int .i64 (x3)))], [], [(.arr true (z4) (.r4 (l5)))]⟩
theorem qep (k : Nat) (az : Bool) (a : List Int) : go (k + 1) laws_FnActTexts [(.arr false (az) (.ints IntKind.u8 (a)))] =
 (go k laws_big [(.arr false (az) (.ints IntKind.u8 (a)))]).bind fun r0 =>
 cond (bit (nth r0 0))
 (some [(.bool (true))])
 ((go k spec_DrawActs [(.arr false (az) (.ints IntKind.u8 (a)))]).bind fun r1 =>
 (go k impl_ScriptText [(.arr false (D.nil (nth r1 1)) (.r4 (D.r4 (nth r1 1))))]).bind fun r2 =>
 lp k laws_FnActTexts [] [] 7 k (qjr (D.toStr (nth r2 0)) (bit (nth r2 1)) (0 : Int) (0 : Int) (D.nil (nth r1 1)) (D.r4 (nth r1 1)))) := by kernel_rfl
theorem qg8 (k n : Nat) (fu : List (Nat × Nat)) (x0 : ByteArray) (x1 : Bool) (x2 x3 : Int) (z4 : Bool) (l5 : List (Int × Int × Int × Int)) : lp k laws_FnActTexts [] fu 7 (n + 1) (qjr x0 x1 x2 x3 z4 l5) =
 cond (decide (x3 < nI (List.length l5)))
 (cond (decide ((0 : Int) ≤ x3) && decide (x3 < nI (List.length l5)))
 ((go k impl_FormatAct [(.agg [(.int .i64 (Prod.fst (List.getD l5 (Int.toNat x3) zz4))), (.int .i64 (Prod.fst (Prod.snd (List.getD l5 (Int.toNat x3) zz4)))), (.int .i64 (Prod.fst (Prod.snd (Prod.snd (List.getD l5 (Int.toNat x3) zz4))))), (.int .i64 (Prod.snd (Prod.snd (Prod.snd (List.getD l5 (Int.toNat x3) zz4)))))])]).bind fun r0 =>
 (go k impl_ParseAct [(.str (D.toStr (nth r0 0)))]).bind fun r1 =>
 cond (!bit (nth r0 1))
 (some [(.bool (false))])
 (cond (!bit (nth r1 1))
 (some [(.bool (false))])
 (cond (decide ((0 : Int) ≤ x3) && decide (x3 < nI (List.length l5)))
 (cond (!(decide (D.toInt (D.cell 0 (nth r1 0)) = Prod.fst (List.getD l5 (Int.toNat x3) zz4)) && (decide (D.toInt (D.cell 1 (nth r1 0)) = Prod.fst (Prod.snd (List.getD l5 (Int.toNat x3) zz4))) && (decide (D.toInt (D.cell 2 (nth r1 0)) = Prod.fst (Prod.snd (Prod.snd (List.getD l5 (Int.toNat x3) zz4)))) && (decide (D.toInt (D.cell 3 (nth r1 0)) = Prod.snd (Prod.snd (Prod.snd (List.getD l5 (Int.toNat x3) zz4)))) && true)))))
 (some [(.bool (false))])
 ((go k impl_ActOk [(.agg [(.int .i64 (D.toInt (D.cell 0 (nth r1 0)))), (.int .i64 (D.toInt (D.cell 1 (nth r1 0)))), (.int .i64 (D.toInt (D.cell 2 (nth r1 0)))), (.int .i64 (D.toInt (D.cell 3 (nth r1 0))))])]).bind fun r2 =>
 cond (!bit (nth r2 0))
 (some [(.bool (false))])
 (lp k laws_FnActTexts [] fu 7 n (qjr x0 x1 (IntKind.wrap .i64 (IntKind.wrap .i64 (x2 + nI (ByteArray.size (D.toStr (nth r0 0)))) + (1 : Int))) (IntKind.wrap .i64 (x3 + (1 : Int))) z4 l5))))
 (none))))
 (none))
 ((go k impl_FormatAct [(.agg [(.int .i64 ((1 : Int))), (.int .i64 ((3 : Int))), (.int .i64 (0 : Int)), (.int .i64 (0 : Int))])]).bind fun r3 =>
 cond (x1)
 (cond (decide (nI (ByteArray.size x0) = x2))
 (cond (bit (nth r3 1))
 (some [(.bool (decide (D.toStr (nth r3 0) = { data := #[(114 : UInt8), (117 : UInt8), (110 : UInt8), (32 : UInt8), (51 : UInt8)] })))])
 (some [(.bool (false))]))
 (some [(.bool (false))]))
 (some [(.bool (false))])) := by kernel_rfl

end Go.Proofs.YtjfjniebmdafeaaDoor
end
section
namespace Go.Proofs.YtjfjniebmdafeaaDoor
open Go.Ev
set_option maxRecDepth 20000
theorem qed (k : Nat) (a : ByteArray) : go (k + 1) impl_SplitFields [(.str (a))] =
 cond (decide ((600 : Int) < nI (ByteArray.size a)))
 (some [(.arr true (true) (.strs ([]))), (.bool (false))])
 ((go k slices_ContainsFunc_byte_byte [(.arr false (false) (.ints IntKind.u8 (bytesL a))), (.fn impl_SplitFields_1 [])]).bind fun r0 =>
 cond (bit (nth r0 0))
 (some [(.arr true (true) (.strs ([]))), (.bool (false))])
 ((go k strings_Fields [(.str (a))]).bind fun r1 =>
 cond (decide ((24 : Int) < nI (List.length (D.strs (nth r1 0)))))
 (some [(.arr true (true) (.strs ([]))), (.bool (false))])
 (some [(.arr true (D.nil (nth r1 0)) (.strs (D.strs (nth r1 0)))), (.bool (true))]))) := by kernel_rfl
theorem qee (k : Nat) (a : Int) : go (k + 1) impl_SplitFields_1 [(.int IntKind.u8 (a))] =
 cond (decide (a < (32 : Int)))
 (some [(.bool (true))])
 (some [(.bool (decide ((126 : Int) < a)))]) := by kernel_rfl
theorem qer (k : Nat) (v0 : Bool) (v1 : List Int) : go (k + 1) slices_ContainsFunc_byte_byte [(.arr false (v0) (.ints IntKind.u8 (v1))), (.fn impl_SplitFields_1 [])] =
 (go k slices_IndexFunc_byte_byte [(.arr false (v0) (.ints IntKind.u8 (v1))), (.fn impl_SplitFields_1 [])]).bind fun r0 =>
 some [(.bool (decide ((0 : Int) ≤ D.toInt (nth r0 0))))] := by kernel_rfl
def qjs (x0 x1 : Int) (z2 : Bool) (l3 : List Int) : St := ⟨fill 19 [(0, (.sl 0 none)), (1, (.fn impl_SplitFields_1 [])), (7, (.int .i64 (x0))), (8, (.int .i64 (x1)))], [], [(.arr false (z2) (.ints IntKind.u8 (l3)))]⟩
theorem qes (k : Nat) (v0 : Bool) (v1 : List Int) : go (k + 1) slices_IndexFunc_byte_byte [(.arr false (v0) (.ints IntKind.u8 (v1))), (.fn impl_SplitFields_1 [])] =
 lp k slices_IndexFunc_byte_byte [] [] 2 k (qjs (nI (List.length v1)) (0 : Int) v0 v1) := by kernel_rfl
theorem qg9 (k n : Nat) (fu : List (Nat × Nat)) (x0 x1 : Int) (z2 : Bool) (l3 : List Int) : lp k slices_IndexFunc_byte_byte [] fu 2 (n + 1) (qjs x0 x1 z2 l3) =
 cond (decide (x1 < x0))
 (cond (decide ((0 : Int) ≤ x1) && decide (x1 < nI (List.length l3)))
 ((go k impl_SplitFields_1 [(.int IntKind.u8 (List.getD l3 (Int.toNat x1) (0 : Int)))]).bind fun r0 =>
 cond (bit (nth r0 0))
 (some [(.int .i64 (x1))])
 (lp k slices_IndexFunc_byte_byte [] fu 2 n (qjs x0 (IntKind.wrap .i64 (x1 + (1 : Int))) z2 l3)))
 (none))
 (some [(.int .i64 ((-1 : Int)))]) := by kernel_rfl
def qjt (x0 : ByteArray) (x1 x2 : Int) (z3 : Bool) (l4 : List ByteArray) : St := ⟨fill 19 [(0, (.sl 0 none)), (1, (.str (x0))), (7, (.int .i64 (x1))), (8, (.int .i64 (x2)))], [], [(.arr false (z3) (.strs (l4)))]⟩
theorem qet (k : Nat) (az : Bool) (a : List ByteArray) (b : ByteArray) : go (k + 1) slices_Index_string_string [(.arr false (az) (.strs (a))), (.str (b))] =
 lp k slices_Index_string_string [] [] 2 k (qjt b (nI (List.length a)) (0 : Int) az a) := by kernel_rfl
theorem qha (k n : Nat) (fu : List (Nat × Nat)) (x0 : ByteArray) (x1 x2 : Int) (z3 : Bool) (l4 : List ByteArray) : lp k slices_Index_string_string [] fu 2 (n + 1) (qjt x0 x1 x2 z3 l4) =
 cond (decide (x2 < x1))
 (cond (decide ((0 : Int) ≤ x2) && decide (x2 < nI (List.length l4)))
 (cond (decide (x0 = List.getD l4 (Int.toNat x2) ByteArray.empty))
 (some [(.int .i64 (x2))])
 (lp k slices_Index_string_string [] fu 2 n (qjt x0 x1 (IntKind.wrap .i64 (x2 + (1 : Int))) z3 l4)))
 (none))
 (some [(.int .i64 ((-1 : Int)))]) := by kernel_rfl
def qjp (n0 : Nat) (x1 x2 x3 x4 x5 x6 : Int) (z7 : Bool) (l8 : List ByteArray) (x9 x10 x11 x12 : Int) : St := ⟨fill 76 [(2, (.ptr 0 (0) (0))), (4, (.sl 1 none)), (6, (.ptr 2 (0) (0))), (42, (.bsl 3 (n0))), (43, (.int .i64 (x1))), (44, (.int .i64 (x2)))], [], [(.box true [(.int .i64 (x3)), (.int .i64 (x4)), (.int .i64 (x5)), (.int .i64 (x6))]), (.arr true (z7) (.strs (l8))), (.box true [(.int .i64 (x9)), (.int .i64 (x10)), (.int .i64 (x11)), (.int .i64 (x12))]), (.box true [(.ptr 2 (0) (1)), (.ptr 2 (0) (2)), (.ptr 2 (0) (3))])]⟩
theorem qeb (k : Nat) (a : ByteArray) : go (k + 1) impl_ParseAct [(.str (a))] =
 (go k impl_SplitFields [(.str (a))]).bind fun r0 =>
 cond (!bit (nth r0 1))
 (some [(.agg [(.int .i64 (0 : Int)), (.int .i64 (0 : Int)), (.int .i64 (0 : Int)), (.int .i64 (0 : Int))]), (.bool (false))])
 (cond (decide (nI (List.length (D.strs (nth r0 0))) < (2 : Int)))
 (some [(.agg [(.int .i64 (0 : Int)), (.int .i64 (0 : Int)), (.int .i64 (0 : Int)), (.int .i64 (0 : Int))]), (.bool (false))])
 (cond (decide ((4 : Int) < nI (List.length (D.strs (nth r0 0)))))
 (some [(.agg [(.int .i64 (0 : Int)), (.int .i64 (0 : Int)), (.int .i64 (0 : Int)), (.int .i64 (0 : Int))]), (.bool (false))])
 ((go k impl_actNames []).bind fun r1 =>
 cond (decide ((0 : Int) ≤ (0 : Int)) && decide ((0 : Int) < nI (List.length (D.strs (nth r0 0)))))
 ((go k slices_Index_string_string [(.arr false (D.nil (nth r1 0)) (.strs (D.strs (nth r1 0)))), (.str (List.getD (D.strs (nth r0 0)) (Int.toNat (0 : Int)) ByteArray.empty))]).bind fun r2 =>
 cond (Nat.beq (Program.cellsOf Proofs.Tryd.prog (103 : Nat)) 1 && (decide ((0 : Int) ≤ IntKind.wrap .i64 (nI (List.length (D.strs (nth r0 0))) - (1 : Int))) && decide (IntKind.wrap .i64 (nI (List.length (D.strs (nth r0 0))) - (1 : Int)) ≤ nI 3)))
 (lp k impl_ParseAct [] [] 6 k (qjp (Int.toNat (IntKind.wrap .i64 (nI (List.length (D.strs (nth r0 0))) - (1 : Int)))) (nI (Int.toNat (IntKind.wrap .i64 (nI (List.length (D.strs (nth r0 0))) - (1 : Int))))) (0 : Int) (0 : Int) (0 : Int) (0 : Int) (0 : Int) (D.nil (nth r0 0)) (D.strs (nth r0 0)) (D.toInt (nth r2 0)) (0 : Int) (0 : Int) (0 : Int)))
 (none))
 (none)))) := by kernel_rfl
theorem qg6 (k n : Nat) (fu : List (Nat × Nat)) (n0 : Nat) (x1 x2 x3 x4 x5 x6 : Int) (z7 : Bool) (l8 : List ByteArray) (x9 x10 x11 x12 : Int) : lp k impl_ParseAct [] fu 6 (n + 1) (qjp n0 x1 x2 x3 x4 x5 x6 z7 l8 x9 x10 x11 x12) =
 cond (decide (x2 < x1))
 (cond (decide ((0 : Int) ≤ x2) && decide (x2 < nI n0))
 (cond (Nat.beq (Int.toNat x2) (nat_lit 2))
 (cond (Nat.beq (Int.toNat x2) 0)
 (cond (decide ((0 : Int) ≤ IntKind.wrap .i64 (x2 + (1 : Int))) && decide (IntKind.wrap .i64 (x2 + (1 : Int)) < nI (List.length l8)))
 ((go k impl_parseNumber [(.str (List.getD l8 (Int.toNat (IntKind.wrap .i64 (x2 + (1 : Int)))) ByteArray.empty))]).bind fun r0 =>
 lp k impl_ParseAct [] fu 6 n (qjp n0 x1 (IntKind.wrap .i64 (x2 + (1 : Int))) x3 x4 x5 x6 z7 l8 x9 x10 x11 (D.toInt (nth r0 0))))
 (none))
 (cond (Nat.beq (Int.toNat x2) 1)
 (cond (decide ((0 : Int) ≤ IntKind.wrap .i64 (x2 + (1 : Int))) && decide (IntKind.wrap .i64 (x2 + (1 : Int)) < nI (List.length l8)))
 ((go k impl_parseNumber [(.str (List.getD l8 (Int.toNat (IntKind.wrap .i64 (x2 + (1 : Int)))) ByteArray.empty))]).bind fun r1 =>
 lp k impl_ParseAct [] fu 6 n (qjp n0 x1 (IntKind.wrap .i64 (x2 + (1 : Int))) x3 x4 x5 x6 z7 l8 x9 x10 x11 (D.toInt (nth r1 0))))
 (none))
 (cond (Nat.beq (Int.toNat x2) 2)
 (cond (decide ((0 : Int) ≤ IntKind.wrap .i64 (x2 + (1 : Int))) && decide (IntKind.wrap .i64 (x2 + (1 : Int)) < nI (List.length l8)))
 ((go k impl_parseNumber [(.str (List.getD l8 (Int.toNat (IntKind.wrap .i64 (x2 + (1 : Int)))) ByteArray.empty))]).bind fun r2 =>
 lp k impl_ParseAct [] fu 6 n (qjp n0 x1 (IntKind.wrap .i64 (x2 + (1 : Int))) x3 x4 x5 x6 z7 l8 x9 x10 x11 (D.toInt (nth r2 0))))
 (none))
 (cond (Nat.beq (Int.toNat x2) 3)
 (cond (decide ((0 : Int) ≤ IntKind.wrap .i64 (x2 + (1 : Int))) && decide (IntKind.wrap .i64 (x2 + (1 : Int)) < nI (List.length l8)))
 ((go k impl_parseNumber [(.str (List.getD l8 (Int.toNat (IntKind.wrap .i64 (x2 + (1 : Int)))) ByteArray.empty))]).bind fun r3 =>
 lp k impl_ParseAct [] fu 6 n (qjp n0 x1 (IntKind.wrap .i64 (x2 + (1 : Int))) x3 x4 x5 x6 z7 l8 x9 x10 x11 (D.toInt (nth r3 0))))
 (none))
 (cond (Nat.beq (Int.toNat x2) 4)
 (cond (decide ((0 : Int) ≤ IntKind.wrap .i64 (x2 + (1 : Int))) && decide (IntKind.wrap .i64 (x2 + (1 : Int)) < nI (List.length l8)))
 ((go k impl_parseNumber [(.str (List.getD l8 (Int.toNat (IntKind.wrap .i64 (x2 + (1 : Int)))) ByteArray.empty))]).bind fun r4 =>
 lp k impl_ParseAct [] fu 6 n (qjp n0 x1 (IntKind.wrap .i64 (x2 + (1 : Int))) x3 x4 x5 x6 z7 l8 x9 x10 x11 (D.toInt (nth r4 0))))
 (none))
 (cond (Nat.beq (Int.toNat x2) 5)
 (cond (decide ((0 : Int) ≤ IntKind.wrap .i64 (x2 + (1 : Int))) && decide (IntKind.wrap .i64 (x2 + (1 : Int)) < nI (List.length l8)))
 ((go k impl_parseNumber [(.str (List.getD l8 (Int.toNat (IntKind.wrap .i64 (x2 + (1 : Int)))) ByteArray.empty))]).bind fun r5 =>
 lp k impl_ParseAct [] fu 6 n (qjp n0 x1 (IntKind.wrap .i64 (x2 + (1 : Int))) x3 x4 x5 x6 z7 l8 x9 x10 x11 (D.toInt (nth r5 0))))
 (none))
 (cond (Nat.beq (Int.toNat x2) 6)
 (cond (decide ((0 : Int) ≤ IntKind.wrap .i64 (x2 + (1 : Int))) && decide (IntKind.wrap .i64 (x2 + (1 : Int)) < nI (List.length l8)))
 ((go k impl_parseNumber [(.str (List.getD l8 (Int.toNat (IntKind.wrap .i64 (x2 + (1 : Int)))) ByteArray.empty))]).bind fun r6 =>
 lp k impl_ParseAct [] fu 6 n (qjp n0 x1 (IntKind.wrap .i64 (x2 + (1 : Int))) x3 x4 x5 x6 z7 l8 x9 x10 x11 (D.toInt (nth r6 0))))
 (none))
 (cond (Nat.beq (Int.toNat x2) 7)
 (cond (decide ((0 : Int) ≤ IntKind.wrap .i64 (x2 + (1 : Int))) && decide (IntKind.wrap .i64 (x2 + (1 : Int)) < nI (List.length l8)))
 ((go k impl_parseNumber [(.str (List.getD l8 (Int.toNat (IntKind.wrap .i64 (x2 + (1 : Int)))) ByteArray.empty))]).bind fun r7 =>
 lp k impl_ParseAct [] fu 6 n (qjp n0 x1 (IntKind.wrap .i64 (x2 + (1 : Int))) x3 x4 x5 x6 z7 l8 x9 x10 x11 (D.toInt (nth r7 0))))
 (none))
 (cond (Nat.beq (Int.toNat x2) 8)
 (cond (decide ((0 : Int) ≤ IntKind.wrap .i64 (x2 + (1 : Int))) && decide (IntKind.wrap .i64 (x2 + (1 : Int)) < nI (List.length l8)))
 ((go k impl_parseNumber [(.str (List.getD l8 (Int.toNat (IntKind.wrap .i64 (x2 + (1 : Int)))) ByteArray.empty))]).bind fun r8 =>
 lp k impl_ParseAct [] fu 6 n (qjp n0 x1 (IntKind.wrap .i64 (x2 + (1 : Int))) x3 x4 x5 x6 z7 l8 x9 x10 x11 (D.toInt (nth r8 0))))
 (none))
 (cond (Nat.beq (Int.toNat x2) 9)
 (cond (decide ((0 : Int) ≤ IntKind.wrap .i64 (x2 + (1 : Int))) && decide (IntKind.wrap .i64 (x2 + (1 : Int)) < nI (List.length l8)))
 ((go k impl_parseNumber [(.str (List.getD l8 (Int.toNat (IntKind.wrap .i64 (x2 + (1 : Int)))) ByteArray.empty))]).bind fun r9 =>
 lp k impl_ParseAct [] fu 6 n (qjp n0 x1 (IntKind.wrap .i64 (x2 + (1 : Int))) x3 x4 x5 x6 z7 l8 x9 x10 x11 (D.toInt (nth r9 0))))
 (none))
 (cond (Nat.beq (Int.toNat x2) 10)
 (cond (decide ((0 : Int) ≤ IntKind.wrap .i64 (x2 + (1 : Int))) && decide (IntKind.wrap .i64 (x2 + (1 : Int)) < nI (List.length l8)))
 ((go k impl_parseNumber [(.str (List.getD l8 (Int.toNat (IntKind.wrap .i64 (x2 + (1 : Int)))) ByteArray.empty))]).bind fun r10 =>
 lp k impl_ParseAct [] fu 6 n (qjp n0 x1 (IntKind.wrap .i64 (x2 + (1 : Int))) x3 x4 x5 x6 z7 l8 x9 x10 x11 (D.toInt (nth r10 0))))
 (none))
 (cond (Nat.beq (Int.toNat x2) 11)
 (cond (decide ((0 : Int) ≤ IntKind.wrap .i64 (x2 + (1 : Int))) && decide (IntKind.wrap .i64 (x2 + (1 : Int)) < nI (List.length l8)))
 ((go k impl_parseNumber [(.str (List.getD l8 (Int.toNat (IntKind.wrap .i64 (x2 + (1 : Int)))) ByteArray.empty))]).bind fun r11 =>
 lp k impl_ParseAct [] fu 6 n (qjp n0 x1 (IntKind.wrap .i64 (x2 + (1 : Int))) x3 x4 x5 x6 z7 l8 x9 x10 x11 (D.toInt (nth r11 0))))
 (none))
 (cond (Nat.beq (Int.toNat x2) (12 : Nat))
 (cond (decide ((0 : Int) ≤ IntKind.wrap .i64 (x2 + (1 : Int))) && decide (IntKind.wrap .i64 (x2 + (1 : Int)) < nI (List.length l8)))
 ((go k impl_parseNumber [(.str (List.getD l8 (Int.toNat (IntKind.wrap .i64 (x2 + (1 : Int)))) ByteArray.empty))]).bind fun r12 =>
 lp k impl_ParseAct [] fu 6 n (qjp n0 x1 (IntKind.wrap .i64 (x2 + (1 : Int))) x3 x4 x5 x6 z7 l8 x9 x10 x11 (D.toInt (nth r12 0))))
 (none))
 (cond (Nat.beq (Int.toNat x2) (13 : Nat))
 (cond (decide ((0 : Int) ≤ IntKind.wrap .i64 (x2 + (1 : Int))) && decide (IntKind.wrap .i64 (x2 + (1 : Int)) < nI (List.length l8)))
 ((go k impl_parseNumber [(.str (List.getD l8 (Int.toNat (IntKind.wrap .i64 (x2 + (1 : Int)))) ByteArray.empty))]).bind fun r13 =>
 lp k impl_ParseAct [] fu 6 n (qjp n0 x1 (IntKind.wrap .i64 (x2 + (1 : Int))) x3 x4 x5 x6 z7 l8 x9 x10 x11 (D.toInt (nth r13 0))))
 (none))
 (cond (Nat.beq (Int.toNat x2) (14 : Nat))
 (cond (decide ((0 : Int) ≤ IntKind.wrap .i64 (x2 + (1 : Int))) && decide (IntKind.wrap .i64 (x2 + (1 : Int)) < nI (List.length l8)))
 ((go k impl_parseNumber [(.str (List.getD l8 (Int.toNat (IntKind.wrap .i64 (x2 + (1 : Int)))) ByteArray.empty))]).bind fun r14 =>
 lp k impl_ParseAct [] fu 6 n (qjp n0 x1 (IntKind.wrap .i64 (x2 + (1 : Int))) x3 x4 x5 x6 z7 l8 x9 x10 x11 (D.toInt (nth r14 0))))
 (none))
 (cond (Nat.beq (Int.toNat x2) (15 : Nat))
 (cond (decide ((0 : Int) ≤ IntKind.wrap .i64 (x2 + (1 : Int))) && decide (IntKind.wrap .i64 (x2 + (1 : Int)) < nI (List.length l8)))
 ((go k impl_parseNumber [(.str (List.getD l8 (Int.toNat (IntKind.wrap .i64 (x2 + (1 : Int)))) ByteArray.empty))]).bind fun r15 =>
 lp k impl_ParseAct [] fu 6 n (qjp n0 x1 (IntKind.wrap .i64 (x2 + (1 : Int))) x3 x4 x5 x6 z7 l8 x9 x10 x11 (D.toInt (nth r15 0))))
 (none))
 (cond (Nat.beq (Int.toNat x2) (16 : Nat))
 (cond (decide ((0 : Int) ≤ IntKind.wrap .i64 (x2 + (1 : Int))) && decide (IntKind.wrap .i64 (x2 + (1 : Int)) < nI (List.length l8)))
 ((go k impl_parseNumber [(.str (List.getD l8 (Int.toNat (IntKind.wrap .i64 (x2 + (1 : Int)))) ByteArray.empty))]).bind fun r16 =>
 lp k impl_ParseAct [] fu 6 n (qjp n0 x1 (IntKind.wrap .i64 (x2 + (1 : Int))) x3 x4 x5 x6 z7 l8 x9 x10 x11 (D.toInt (nth r16 0))))
 (none))
 (cond (Nat.beq (Int.toNat x2) (17 : Nat))
 (cond (decide ((0 : Int) ≤ IntKind.wrap .i64 (x2 + (1 : Int))) && decide (IntKind.wrap .i64 (x2 + (1 : Int)) < nI (List.length l8)))
 ((go k impl_parseNumber [(.str (List.getD l8 (Int.toNat (IntKind.wrap .i64 (x2 + (1 : Int)))) ByteArray.empty))]).bind fun r17 =>
 lp k impl_ParseAct [] fu 6 n (qjp n0 x1 (IntKind.wrap .i64 (x2 + (1 : Int))) x3 x4 x5 x6 z7 l8 x9 x10 x11 (D.toInt (nth r17 0))))
 (none))
 (cond (Nat.beq (Int.toNat x2) (18 : Nat))
 (cond (decide ((0 : Int) ≤ IntKind.wrap .i64 (x2 + (1 : Int))) && decide (IntKind.wrap .i64 (x2 + (1 : Int)) < nI (List.length l8)))
 ((go k impl_parseNumber [(.str (List.getD l8 (Int.toNat (IntKind.wrap .i64 (x2 + (1 : Int)))) ByteArray.empty))]).bind fun r18 =>
 lp k impl_ParseAct [] fu 6 n (qjp n0 x1 (IntKind.wrap .i64 (x2 + (1 : Int))) x3 x4 x5 x6 z7 l8 x9 x10 x11 (D.toInt (nth r18 0))))
 (none))
 (cond (Nat.beq (Int.toNat x2) (19 : Nat))
 (cond (decide ((0 : Int) ≤ IntKind.wrap .i64 (x2 + (1 : Int))) && decide (IntKind.wrap .i64 (x2 + (1 : Int)) < nI (List.length l8)))
 ((go k impl_parseNumber [(.str (List.getD l8 (Int.toNat (IntKind.wrap .i64 (x2 + (1 : Int)))) ByteArray.empty))]).bind fun r19 =>
 lp k impl_ParseAct [] fu 6 n (qjp n0 x1 (IntKind.wrap .i64 (x2 + (1 : Int))) x3 x4 x5 x6 z7 l8 x9 x10 x11 (D.toInt (nth r19 0))))
 (none))
 (cond (Nat.beq (Int.toNat x2) (20 : Nat))
 (cond (decide ((0 : Int) ≤ IntKind.wrap .i64 (x2 + (1 : Int))) && decide (IntKind.wrap .i64 (x2 + (1 : Int)) < nI (List.length l8)))
 ((go k impl_parseNumber [(.str (List.getD l8 (Int.toNat (IntKind.wrap .i64 (x2 + (1 : Int)))) ByteArray.empty))]).bind fun r20 =>
 lp k impl_ParseAct [] fu 6 n (qjp n0 x1 (IntKind.wrap .i64 (x2 + (1 : Int))) x3 x4 x5 x6 z7 l8 x9 x10 x11 (D.toInt (nth r20 0))))
 (none))
 (cond (Nat.beq (Int.toNat x2) (21 : Nat))
 (cond (decide ((0 : Int) ≤ IntKind.wrap .i64 (x2 + (1 : Int))) && decide (IntKind.wrap .i64 (x2 + (1 : Int)) < nI (List.length l8)))
 ((go k impl_parseNumber [(.str (List.getD l8 (Int.toNat (IntKind.wrap .i64 (x2 + (1 : Int)))) ByteArray.empty))]).bind fun r21 =>
 lp k impl_ParseAct [] fu 6 n (qjp n0 x1 (IntKind.wrap .i64 (x2 + (1 : Int))) x3 x4 x5 x6 z7 l8 x9 x10 x11 (D.toInt (nth r21 0))))
 (none))
 (cond (Nat.beq (Int.toNat x2) (22 : Nat))
 (cond (decide ((0 : Int) ≤ IntKind.wrap .i64 (x2 + (1 : Int))) && decide (IntKind.wrap .i64 (x2 + (1 : Int)) < nI (List.length l8)))
 ((go k impl_parseNumber [(.str (List.getD l8 (Int.toNat (IntKind.wrap .i64 (x2 + (1 : Int)))) ByteArray.empty))]).bind fun r22 =>
 lp k impl_ParseAct [] fu 6 n (qjp n0 x1 (IntKind.wrap .i64 (x2 + (1 : Int))) x3 x4 x5 x6 z7 l8 x9 x10 x11 (D.toInt (nth r22 0))))
 (none))
 (cond (Nat.beq (Int.toNat x2) (23 : Nat))
 (cond (decide ((0 : Int) ≤ IntKind.wrap .i64 (x2 + (1 : Int))) && decide (IntKind.wrap .i64 (x2 + (1 : Int)) < nI (List.length l8)))
 ((go k impl_parseNumber [(.str (List.getD l8 (Int.toNat (IntKind.wrap .i64 (x2 + (1 : Int)))) ByteArray.empty))]).bind fun r23 =>
 lp k impl_ParseAct [] fu 6 n (qjp n0 x1 (IntKind.wrap .i64 (x2 + (1 : Int))) x3 x4 x5 x6 z7 l8 x9 x10 x11 (D.toInt (nth r23 0))))
 (none))
 (cond (Nat.beq (Int.toNat x2) (24 : Nat))
 (cond (decide ((0 : Int) ≤ IntKind.wrap .i64 (x2 + (1 : Int))) && decide (IntKind.wrap .i64 (x2 + (1 : Int)) < nI (List.length l8)))
 ((go k impl_parseNumber [(.str (List.getD l8 (Int.toNat (IntKind.wrap .i64 (x2 + (1 : Int)))) ByteArray.empty))]).bind fun r24 =>
 lp k impl_ParseAct [] fu 6 n (qjp n0 x1 (IntKind.wrap .i64 (x2 + (1 : Int))) x3 x4 x5 x6 z7 l8 x9 x10 x11 (D.toInt (nth r24 0))))
 (none))
 (cond (Nat.beq (Int.toNat x2) (25 : Nat))
 (cond (decide ((0 : Int) ≤ IntKind.wrap .i64 (x2 + (1 : Int))) && decide (IntKind.wrap .i64 (x2 + (1 : Int)) < nI (List.length l8)))
 ((go k impl_parseNumber [(.str (List.getD l8 (Int.toNat (IntKind.wrap .i64 (x2 + (1 : Int)))) ByteArray.empty))]).bind fun r25 =>
 lp k impl_ParseAct [] fu 6 n (qjp n0 x1 (IntKind.wrap .i64 (x2 + (1 : Int))) x3 x4 x5 x6 z7 l8 x9 x10 x11 (D.toInt (nth r25 0))))
 (none))
 (cond (Nat.beq (Int.toNat x2) (26 : Nat))
 (cond (decide ((0 : Int) ≤ IntKind.wrap .i64 (x2 + (1 : Int))) && decide (IntKind.wrap .i64 (x2 + (1 : Int)) < nI (List.length l8)))
 ((go k impl_parseNumber [(.str (List.getD l8 (Int.toNat (IntKind.wrap .i64 (x2 + (1 : Int)))) ByteArray.empty))]).bind fun r26 =>
 lp k impl_ParseAct [] fu 6 n (qjp n0 x1 (IntKind.wrap .i64 (x2 + (1 : Int))) x3 x4 x5 x6 z7 l8 x9 x10 x11 (D.toInt (nth r26 0))))
 (none))
 (cond (Nat.beq (Int.toNat x2) (27 : Nat))
 (cond (decide ((0 : Int) ≤ IntKind.wrap .i64 (x2 + (1 : Int))) && decide (IntKind.wrap .i64 (x2 + (1 : Int)) < nI (List.length l8)))
 ((go k impl_parseNumber [(.str (List.getD l8 (Int.toNat (IntKind.wrap .i64 (x2 + (1 : Int)))) ByteArray.empty))]).bind fun r27 =>
 lp k impl_ParseAct [] fu 6 n (qjp n0 x1 (IntKind.wrap .i64 (x2 + (1 : Int))) x3 x4 x5 x6 z7 l8 x9 x10 x11 (D.toInt (nth r27 0))))
 (none))
 (cond (Nat.beq (Int.toNat x2) (28 : Nat))
 (cond (decide ((0 : Int) ≤ IntKind.wrap .i64 (x2 + (1 : Int))) && decide (IntKind.wrap .i64 (x2 + (1 : Int)) < nI (List.length l8)))
 ((go k impl_parseNumber [(.str (List.getD l8 (Int.toNat (IntKind.wrap .i64 (x2 + (1 : Int)))) ByteArray.empty))]).bind fun r28 =>
 lp k impl_ParseAct [] fu 6 n (qjp n0 x1 (IntKind.wrap .i64 (x2 + (1 : Int))) x3 x4 x5 x6 z7 l8 x9 x10 x11 (D.toInt (nth r28 0))))
 (none))
 (cond (Nat.beq (Int.toNat x2) (29 : Nat))
 (cond (decide ((0 : Int) ≤ IntKind.wrap .i64 (x2 + (1 : Int))) && decide (IntKind.wrap .i64 (x2 + (1 : Int)) < nI (List.length l8)))
 ((go k impl_parseNumber [(.str (List.getD l8 (Int.toNat (IntKind.wrap .i64 (x2 + (1 : Int)))) ByteArray.empty))]).bind fun r29 =>
 lp k impl_ParseAct [] fu 6 n (qjp n0 x1 (IntKind.wrap .i64 (x2 + (1 : Int))) x3 x4 x5 x6 z7 l8 x9 x10 x11 (D.toInt (nth r29 0))))
 (none))
 (cond (Nat.beq (Int.toNat x2) (30 : Nat))
 (cond (decide ((0 : Int) ≤ IntKind.wrap .i64 (x2 + (1 : Int))) && decide (IntKind.wrap .i64 (x2 + (1 : Int)) < nI (List.length l8)))
 ((go k impl_parseNumber [(.str (List.getD l8 (Int.toNat (IntKind.wrap .i64 (x2 + (1 : Int)))) ByteArray.empty))]).bind fun r30 =>
 lp k impl_ParseAct [] fu 6 n (qjp n0 x1 (IntKind.wrap .i64 (x2 + (1 : Int))) x3 x4 x5 x6 z7 l8 x9 x10 x11 (D.toInt (nth r30 0))))
 (none))
 (cond (Nat.beq (Int.toNat x2) (31 : Nat))
 (cond (decide ((0 : Int) ≤ IntKind.wrap .i64 (x2 + (1 : Int))) && decide (IntKind.wrap .i64 (x2 + (1 : Int)) < nI (List.length l8)))
 ((go k impl_parseNumber [(.str (List.getD l8 (Int.toNat (IntKind.wrap .i64 (x2 + (1 : Int)))) ByteArray.empty))]).bind fun r31 =>
 lp k impl_ParseAct [] fu 6 n (qjp n0 x1 (IntKind.wrap .i64 (x2 + (1 : Int))) x3 x4 x5 x6 z7 l8 x9 x10 x11 (D.toInt (nth r31 0))))
 (none))
 (cond (Nat.beq (Int.toNat x2) (32 : Nat))
 (cond (decide ((0 : Int) ≤ IntKind.wrap .i64 (x2 + (1 : Int))) && decide (IntKind.wrap .i64 (x2 + (1 : Int)) < nI (List.length l8)))
 ((go k impl_parseNumber [(.str (List.getD l8 (Int.toNat (IntKind.wrap .i64 (x2 + (1 : Int)))) ByteArray.empty))]).bind fun r32 =>
 lp k impl_ParseAct [] fu 6 n (qjp n0 x1 (IntKind.wrap .i64 (x2 + (1 : Int))) x3 x4 x5 x6 z7 l8 x9 x10 x11 (D.toInt (nth r32 0))))
 (none))
 (cond (Nat.beq (Int.toNat x2) (33 : Nat))
 (cond (decide ((0 : Int) ≤ IntKind.wrap .i64 (x2 + (1 : Int))) && decide (IntKind.wrap .i64 (x2 + (1 : Int)) < nI (List.length l8)))
 ((go k impl_parseNumber [(.str (List.getD l8 (Int.toNat (IntKind.wrap .i64 (x2 + (1 : Int)))) ByteArray.empty))]).bind fun r33 =>
 lp k impl_ParseAct [] fu 6 n (qjp n0 x1 (IntKind.wrap .i64 (x2 + (1 : Int))) x3 x4 x5 x6 z7 l8 x9 x10 x11 (D.toInt (nth r33 0))))
 (none))
 (cond (Nat.beq (Int.toNat x2) (34 : Nat))
 (cond (decide ((0 : Int) ≤ IntKind.wrap .i64 (x2 + (1 : Int))) && decide (IntKind.wrap .i64 (x2 + (1 : Int)) < nI (List.length l8)))
 ((go k impl_parseNumber [(.str (List.getD l8 (Int.toNat (IntKind.wrap .i64 (x2 + (1 : Int)))) ByteArray.empty))]).bind fun r34 =>
 lp k impl_ParseAct [] fu 6 n (qjp n0 x1 (IntKind.wrap .i64 (x2 + (1 : Int))) x3 x4 x5 x6 z7 l8 x9 x10 x11 (D.toInt (nth r34 0))))
 (none))
 (cond (Nat.beq (Int.toNat x2) (35 : Nat))
 (cond (decide ((0 : Int) ≤ IntKind.wrap .i64 (x2 + (1 : Int))) && decide (IntKind.wrap .i64 (x2 + (1 : Int)) < nI (List.length l8)))
 ((go k impl_parseNumber [(.str (List.getD l8 (Int.toNat (IntKind.wrap .i64 (x2 + (1 : Int)))) ByteArray.empty))]).bind fun r35 =>
 lp k impl_ParseAct [] fu 6 n (qjp n0 x1 (IntKind.wrap .i64 (x2 + (1 : Int))) x3 x4 x5 x6 z7 l8 x9 x10 x11 (D.toInt (nth r35 0))))
 (none))
 (cond (Nat.beq (Int.toNat x2) (36 : Nat))
 (cond (decide ((0 : Int) ≤ IntKind.wrap .i64 (x2 + (1 : Int))) && decide (IntKind.wrap .i64 (x2 + (1 : Int)) < nI (List.length l8)))
 ((go k impl_parseNumber [(.str (List.getD l8 (Int.toNat (IntKind.wrap .i64 (x2 + (1 : Int)))) ByteArray.empty))]).bind fun r36 =>
 lp k impl_ParseAct [] fu 6 n (qjp n0 x1 (IntKind.wrap .i64 (x2 + (1 : Int))) x3 x4 x5 x6 z7 l8 x9 x10 x11 (D.toInt (nth r36 0))))
 (none))
 (cond (Nat.beq (Int.toNat x2) (37 : Nat))
 (cond (decide ((0 : Int) ≤ IntKind.wrap .i64 (x2 + (1 : Int))) && decide (IntKind.wrap .i64 (x2 + (1 : Int)) < nI (List.length l8)))
 ((go k impl_parseNumber [(.str (List.getD l8 (Int.toNat (IntKind.wrap .i64 (x2 + (1 : Int)))) ByteArray.empty))]).bind fun r37 =>
 lp k impl_ParseAct [] fu 6 n (qjp n0 x1 (IntKind.wrap .i64 (x2 + (1 : Int))) x3 x4 x5 x6 z7 l8 x9 x10 x11 (D.toInt (nth r37 0))))
 (none))
 (cond (Nat.beq (Int.toNat x2) (38 : Nat))
 (cond (decide ((0 : Int) ≤ IntKind.wrap .i64 (x2 + (1 : Int))) && decide (IntKind.wrap .i64 (x2 + (1 : Int)) < nI (List.length l8)))
 ((go k impl_parseNumber [(.str (List.getD l8 (Int.toNat (IntKind.wrap .i64 (x2 + (1 : Int)))) ByteArray.empty))]).bind fun r38 =>
 lp k impl_ParseAct [] fu 6 n (qjp n0 x1 (IntKind.wrap .i64 (x2 + (1 : Int))) x3 x4 x5 x6 z7 l8 x9 x10 x11 (D.toInt (nth r38 0))))
 (none))
 (cond (Nat.beq (Int.toNat x2) (39 : Nat))
 (cond (decide ((0 : Int) ≤ IntKind.wrap .i64 (x2 + (1 : Int))) && decide (IntKind.wrap .i64 (x2 + (1 : Int)) < nI (List.length l8)))
 ((go k impl_parseNumber [(.str (List.getD l8 (Int.toNat (IntKind.wrap .i64 (x2 + (1 : Int)))) ByteArray.empty))]).bind fun r39 =>
 lp k impl_ParseAct [] fu 6 n (qjp n0 x1 (IntKind.wrap .i64 (x2 + (1 : Int))) x3 x4 x5 x6 z7 l8 x9 x10 x11 (D.toInt (nth r39 0))))
 (none))
 (cond (Nat.beq (Int.toNat x2) (40 : Nat))
 (cond (decide ((0 : Int) ≤ IntKind.wrap .i64 (x2 + (1 : Int))) && decide (IntKind.wrap .i64 (x2 + (1 : Int)) < nI (List.length l8)))
 ((go k impl_parseNumber [(.str (List.getD l8 (Int.toNat (IntKind.wrap .i64 (x2 + (1 : Int)))) ByteArray.empty))]).bind fun r40 =>
 lp k impl_ParseAct [] fu 6 n (qjp n0 x1 (IntKind.wrap .i64 (x2 + (1 : Int))) x3 x4 x5 x6 z7 l8 x9 x10 x11 (D.toInt (nth r40 0))))
 (none))
 (cond (Nat.beq (Int.toNat x2) (41 : Nat))
 (cond (decide ((0 : Int) ≤ IntKind.wrap .i64 (x2 + (1 : Int))) && decide (IntKind.wrap .i64 (x2 + (1 : Int)) < nI (List.length l8)))
 ((go k impl_parseNumber [(.str (List.getD l8 (Int.toNat (IntKind.wrap .i64 (x2 + (1 : Int)))) ByteArray.empty))]).bind fun r41 =>
 lp k impl_ParseAct [] fu 6 n (qjp n0 x1 (IntKind.wrap .i64 (x2 + (1 : Int))) x3 x4 x5 x6 z7 l8 x9 x10 x11 (D.toInt (nth r41 0))))
 (none))
 (cond (Nat.beq (Int.toNat x2) (42 : Nat))
 (cond (decide ((0 : Int) ≤ IntKind.wrap .i64 (x2 + (1 : Int))) && decide (IntKind.wrap .i64 (x2 + (1 : Int)) < nI (List.length l8)))
 ((go k impl_parseNumber [(.str (List.getD l8 (Int.toNat (IntKind.wrap .i64 (x2 + (1 : Int)))) ByteArray.empty))]).bind fun r42 =>
 lp k impl_ParseAct [] fu 6 n (qjp n0 x1 (IntKind.wrap .i64 (x2 + (1 : Int))) x3 x4 x5 x6 z7 l8 x9 x10 x11 (D.toInt (nth r42 0))))
 (none))
 (cond (Nat.beq (Int.toNat x2) (43 : Nat))
 (cond (decide ((0 : Int) ≤ IntKind.wrap .i64 (x2 + (1 : Int))) && decide (IntKind.wrap .i64 (x2 + (1 : Int)) < nI (List.length l8)))
 ((go k impl_parseNumber [(.str (List.getD l8 (Int.toNat (IntKind.wrap .i64 (x2 + (1 : Int)))) ByteArray.empty))]).bind fun r43 =>
 lp k impl_ParseAct [] fu 6 n (qjp n0 x1 (IntKind.wrap .i64 (x2 + (1 : Int))) x3 x4 x5 x6 z7 l8 x9 x10 x11 (D.toInt (nth r43 0))))
 (none))
 (cond (Nat.beq (Int.toNat x2) (44 : Nat))
 (cond (decide ((0 : Int) ≤ IntKind.wrap .i64 (x2 + (1 : Int))) && decide (IntKind.wrap .i64 (x2 + (1 : Int)) < nI (List.length l8)))
 ((go k impl_parseNumber [(.str (List.getD l8 (Int.toNat (IntKind.wrap .i64 (x2 + (1 : Int)))) ByteArray.empty))]).bind fun r44 =>
 lp k impl_ParseAct [] fu 6 n (qjp n0 x1 (IntKind.wrap .i64 (x2 + (1 : Int))) x3 x4 x5 x6 z7 l8 x9 x10 x11 (D.toInt (nth r44 0))))
 (none))
 (cond (Nat.beq (Int.toNat x2) (45 : Nat))
 (cond (decide ((0 : Int) ≤ IntKind.wrap .i64 (x2 + (1 : Int))) && decide (IntKind.wrap .i64 (x2 + (1 : Int)) < nI (List.length l8)))
 ((go k impl_parseNumber [(.str (List.getD l8 (Int.toNat (IntKind.wrap .i64 (x2 + (1 : Int)))) ByteArray.empty))]).bind fun r45 =>
 lp k impl_ParseAct [] fu 6 n (qjp n0 x1 (IntKind.wrap .i64 (x2 + (1 : Int))) x3 x4 x5 x6 z7 l8 x9 x10 x11 (D.toInt (nth r45 0))))
 (none))
 (cond (Nat.beq (Int.toNat x2) (46 : Nat))
 (cond (decide ((0 : Int) ≤ IntKind.wrap .i64 (x2 + (1 : Int))) && decide (IntKind.wrap .i64 (x2 + (1 : Int)) < nI (List.length l8)))
 ((go k impl_parseNumber [(.str (List.getD l8 (Int.toNat (IntKind.wrap .i64 (x2 + (1 : Int)))) ByteArray.empty))]).bind fun r46 =>
 lp k impl_ParseAct [] fu 6 n (qjp n0 x1 (IntKind.wrap .i64 (x2 + (1 : Int))) x3 x4 x5 x6 z7 l8 x9 x10 x11 (D.toInt (nth r46 0))))
 (none))
 (cond (Nat.beq (Int.toNat x2) (47 : Nat))
 (cond (decide ((0 : Int) ≤ IntKind.wrap .i64 (x2 + (1 : Int))) && decide (IntKind.wrap .i64 (x2 + (1 : Int)) < nI (List.length l8)))
 ((go k impl_parseNumber [(.str (List.getD l8 (Int.toNat (IntKind.wrap .i64 (x2 + (1 : Int)))) ByteArray.empty))]).bind fun r47 =>
 lp k impl_ParseAct [] fu 6 n (qjp n0 x1 (IntKind.wrap .i64 (x2 + (1 : Int))) x3 x4 x5 x6 z7 l8 x9 x10 x11 (D.toInt (nth r47 0))))
 (none))
 (cond (decide ((0 : Int) ≤ IntKind.wrap .i64 (x2 + (1 : Int))) && decide (IntKind.wrap .i64 (x2 + (1 : Int)) < nI (List.length l8)))
 ((go k impl_parseNumber [(.str (List.getD l8 (Int.toNat (IntKind.wrap .i64 (x2 + (1 : Int)))) ByteArray.empty))]).bind fun r48 =>
 cond (Nat.beq (Int.toNat x2) 0)
 (lp k impl_ParseAct [] fu 6 n (qjp n0 x1 (IntKind.wrap .i64 (x2 + (1 : Int))) x3 x4 x5 x6 z7 l8 x9 x10 x11 (D.toInt (nth r48 0))))
 (cond (Nat.beq (Int.toNat x2) 1)
 (lp k impl_ParseAct [] fu 6 n (qjp n0 x1 (IntKind.wrap .i64 (x2 + (1 : Int))) x3 x4 x5 x6 z7 l8 x9 x10 x11 (D.toInt (nth r48 0))))
 (cond (Nat.beq (Int.toNat x2) 2)
 (lp k impl_ParseAct [] fu 6 n (qjp n0 x1 (IntKind.wrap .i64 (x2 + (1 : Int))) x3 x4 x5 x6 z7 l8 x9 x10 x11 (D.toInt (nth r48 0))))
 (cond (Nat.beq (Int.toNat x2) 3)
 (lp k impl_ParseAct [] fu 6 n (qjp n0 x1 (IntKind.wrap .i64 (x2 + (1 : Int))) x3 x4 x5 x6 z7 l8 x9 x10 x11 (D.toInt (nth r48 0))))
 (cond (Nat.beq (Int.toNat x2) 4)
 (lp k impl_ParseAct [] fu 6 n (qjp n0 x1 (IntKind.wrap .i64 (x2 + (1 : Int))) x3 x4 x5 x6 z7 l8 x9 x10 x11 (D.toInt (nth r48 0))))
 (cond (Nat.beq (Int.toNat x2) 5)
 (lp k impl_ParseAct [] fu 6 n (qjp n0 x1 (IntKind.wrap .i64 (x2 + (1 : Int))) x3 x4 x5 x6 z7 l8 x9 x10 x11 (D.toInt (nth r48 0))))
 (cond (Nat.beq (Int.toNat x2) 6)
 (lp k impl_ParseAct [] fu 6 n (qjp n0 x1 (IntKind.wrap .i64 (x2 + (1 : Int))) x3 x4 x5 x6 z7 l8 x9 x10 x11 (D.toInt (nth r48 0))))
 (cond (Nat.beq (Int.toNat x2) 7)
 (lp k impl_ParseAct [] fu 6 n (qjp n0 x1 (IntKind.wrap .i64 (x2 + (1 : Int))) x3 x4 x5 x6 z7 l8 x9 x10 x11 (D.toInt (nth r48 0))))
 (cond (Nat.beq (Int.toNat x2) 8)
 (lp k impl_ParseAct [] fu 6 n (qjp n0 x1 (IntKind.wrap .i64 (x2 + (1 : Int))) x3 x4 x5 x6 z7 l8 x9 x10 x11 (D.toInt (nth r48 0))))
 (cond (Nat.beq (Int.toNat x2) 9)
 (lp k impl_ParseAct [] fu 6 n (qjp n0 x1 (IntKind.wrap .i64 (x2 + (1 : Int))) x3 x4 x5 x6 z7 l8 x9 x10 x11 (D.toInt (nth r48 0))))
 (cond (Nat.beq (Int.toNat x2) 10)
 (lp k impl_ParseAct [] fu 6 n (qjp n0 x1 (IntKind.wrap .i64 (x2 + (1 : Int))) x3 x4 x5 x6 z7 l8 x9 x10 x11 (D.toInt (nth r48 0))))
 (cond (Nat.beq (Int.toNat x2) 11)
 (lp k impl_ParseAct [] fu 6 n (qjp n0 x1 (IntKind.wrap .i64 (x2 + (1 : Int))) x3 x4 x5 x6 z7 l8 x9 x10 x11 (D.toInt (nth r48 0))))
 (cond (Nat.beq (Int.toNat x2) (12 : Nat))
 (lp k impl_ParseAct [] fu 6 n (qjp n0 x1 (IntKind.wrap .i64 (x2 + (1 : Int))) x3 x4 x5 x6 z7 l8 x9 x10 x11 (D.toInt (nth r48 0))))
 (cond (Nat.beq (Int.toNat x2) (13 : Nat))
 (lp k impl_ParseAct [] fu 6 n (qjp n0 x1 (IntKind.wrap .i64 (x2 + (1 : Int))) x3 x4 x5 x6 z7 l8 x9 x10 x11 (D.toInt (nth r48 0))))
 (cond (Nat.beq (Int.toNat x2) (14 : Nat))
 (lp k impl_ParseAct [] fu 6 n (qjp n0 x1 (IntKind.wrap .i64 (x2 + (1 : Int))) x3 x4 x5 x6 z7 l8 x9 x10 x11 (D.toInt (nth r48 0))))
 (cond (Nat.beq (Int.toNat x2) (15 : Nat))
 (lp k impl_ParseAct [] fu 6 n (qjp n0 x1 (IntKind.wrap .i64 (x2 + (1 : Int))) x3 x4 x5 x6 z7 l8 x9 x10 x11 (D.toInt (nth r48 0))))
 (cond (Nat.beq (Int.toNat x2) (16 : Nat))
 (lp k impl_ParseAct [] fu 6 n (qjp n0 x1 (IntKind.wrap .i64 (x2 + (1 : Int))) x3 x4 x5 x6 z7 l8 x9 x10 x11 (D.toInt (nth r48 0))))
 (cond (Nat.beq (Int.toNat x2) (17 : Nat))
 (lp k impl_ParseAct [] fu 6 n (qjp n0 x1 (IntKind.wrap .i64 (x2 + (1 : Int))) x3 x4 x5 x6 z7 l8 x9 x10 x11 (D.toInt (nth r48 0))))
 (cond (Nat.beq (Int.toNat x2) (18 : Nat))
 (lp k impl_ParseAct [] fu 6 n (qjp n0 x1 (IntKind.wrap .i64 (x2 + (1 : Int))) x3 x4 x5 x6 z7 l8 x9 x10 x11 (D.toInt (nth r48 0))))
 (cond (Nat.beq (Int.toNat x2) (19 : Nat))
 (lp k impl_ParseAct [] fu 6 n (qjp n0 x1 (IntKind.wrap .i64 (x2 + (1 : Int))) x3 x4 x5 x6 z7 l8 x9 x10 x11 (D.toInt (nth r48 0))))
 (cond (Nat.beq (Int.toNat x2) (20 : Nat))
 (lp k impl_ParseAct [] fu 6 n (qjp n0 x1 (IntKind.wrap .i64 (x2 + (1 : Int))) x3 x4 x5 x6 z7 l8 x9 x10 x11 (D.toInt (nth r48 0))))
 (cond (Nat.beq (Int.toNat x2) (21 : Nat))
 (lp k impl_ParseAct [] fu 6 n (qjp n0 x1 (IntKind.wrap .i64 (x2 + (1 : Int))) x3 x4 x5 x6 z7 l8 x9 x10 x11 (D.toInt (nth r48 0))))
 (cond (Nat.beq (Int.toNat x2) (22 : Nat))
 (lp k impl_ParseAct [] fu 6 n (qjp n0 x1 (IntKind.wrap .i64 (x2 + (1 : Int))) x3 x4 x5 x6 z7 l8 x9 x10 x11 (D.toInt (nth r48 0))))
 (cond (Nat.beq (Int.toNat x2) (23 : Nat))
 (lp k impl_ParseAct [] fu 6 n (qjp n0 x1 (IntKind.wrap .i64 (x2 + (1 : Int))) x3 x4 x5 x6 z7 l8 x9 x10 x11 (D.toInt (nth r48 0))))
 (cond (Nat.beq (Int.toNat x2) (24 : Nat))
 (lp k impl_ParseAct [] fu 6 n (qjp n0 x1 (IntKind.wrap .i64 (x2 + (1 : Int))) x3 x4 x5 x6 z7 l8 x9 x10 x11 (D.toInt (nth r48 0))))
 (cond (Nat.beq (Int.toNat x2) (25 : Nat))
 (lp k impl_ParseAct [] fu 6 n (qjp n0 x1 (IntKind.wrap .i64 (x2 + (1 : Int))) x3 x4 x5 x6 z7 l8 x9 x10 x11 (D.toInt (nth r48 0))))
 (cond (Nat.beq (Int.toNat x2) (26 : Nat))
 (lp k impl_ParseAct [] fu 6 n (qjp n0 x1 (IntKind.wrap .i64 (x2 + (1 : Int))) x3 x4 x5 x6 z7 l8 x9 x10 x11 (D.toInt (nth r48 0))))
 (cond (Nat.beq (Int.toNat x2) (27 : Nat))
 (lp k impl_ParseAct [] fu 6 n (qjp n0 x1 (IntKind.wrap .i64 (x2 + (1 : Int))) x3 x4 x5 x6 z7 l8 x9 x10 x11 (D.toInt (nth r48 0))))
 (cond (Nat.beq (Int.toNat x2) (28 : Nat))
 (lp k impl_ParseAct [] fu 6 n (qjp n0 x1 (IntKind.wrap .i64 (x2 + (1 : Int))) x3 x4 x5 x6 z7 l8 x9 x10 x11 (D.toInt (nth r48 0))))
 (cond (Nat.beq (Int.toNat x2) (29 : Nat))
 (lp k impl_ParseAct [] fu 6 n (qjp n0 x1 (IntKind.wrap .i64 (x2 + (1 : Int))) x3 x4 x5 x6 z7 l8 x9 x10 x11 (D.toInt (nth r48 0))))
 (cond (Nat.beq (Int.toNat x2) (30 : Nat))
 (lp k impl_ParseAct [] fu 6 n (qjp n0 x1 (IntKind.wrap .i64 (x2 + (1 : Int))) x3 x4 x5 x6 z7 l8 x9 x10 x11 (D.toInt (nth r48 0))))
 (cond (Nat.beq (Int.toNat x2) (31 : Nat))
 (lp k impl_ParseAct [] fu 6 n (qjp n0 x1 (IntKind.wrap .i64 (x2 + (1 : Int))) x3 x4 x5 x6 z7 l8 x9 x10 x11 (D.toInt (nth r48 0))))
 (cond (Nat.beq (Int.toNat x2) (32 : Nat))
 (lp k impl_ParseAct [] fu 6 n (qjp n0 x1 (IntKind.wrap .i64 (x2 + (1 : Int))) x3 x4 x5 x6 z7 l8 x9 x10 x11 (D.toInt (nth r48 0))))
 (cond (Nat.beq (Int.toNat x2) (33 : Nat))
 (lp k impl_ParseAct [] fu 6 n (qjp n0 x1 (IntKind.wrap .i64 (x2 + (1 : Int))) x3 x4 x5 x6 z7 l8 x9 x10 x11 (D.toInt (nth r48 0))))
 (cond (Nat.beq (Int.toNat x2) (34 : Nat))
 (lp k impl_ParseAct [] fu 6 n (qjp n0 x1 (IntKind.wrap .i64 (x2 + (1 : Int))) x3 x4 x5 x6 z7 l8 x9 x10 x11 (D.toInt (nth r48 0))))
 (cond (Nat.beq (Int.toNat x2) (35 : Nat))
 (lp k impl_ParseAct [] fu 6 n (qjp n0 x1 (IntKind.wrap .i64 (x2 + (1 : Int))) x3 x4 x5 x6 z7 l8 x9 x10 x11 (D.toInt (nth r48 0))))
 (cond (Nat.beq (Int.toNat x2) (36 : Nat))
 (lp k impl_ParseAct [] fu 6 n (qjp n0 x1 (IntKind.wrap .i64 (x2 + (1 : Int))) x3 x4 x5 x6 z7 l8 x9 x10 x11 (D.toInt (nth r48 0))))
 (cond (Nat.beq (Int.toNat x2) (37 : Nat))
 (lp k impl_ParseAct [] fu 6 n (qjp n0 x1 (IntKind.wrap .i64 (x2 + (1 : Int))) x3 x4 x5 x6 z7 l8 x9 x10 x11 (D.toInt (nth r48 0))))
 (cond (Nat.beq (Int.toNat x2) (38 : Nat))
 (lp k impl_ParseAct [] fu 6 n (qjp n0 x1 (IntKind.wrap .i64 (x2 + (1 : Int))) x3 x4 x5 x6 z7 l8 x9 x10 x11 (D.toInt (nth r48 0))))
 (cond (Nat.beq (Int.toNat x2) (39 : Nat))
 (lp k impl_ParseAct [] fu 6 n (qjp n0 x1 (IntKind.wrap .i64 (x2 + (1 : Int))) x3 x4 x5 x6 z7 l8 x9 x10 x11 (D.toInt (nth r48 0))))
 (cond (Nat.beq (Int.toNat x2) (40 : Nat))
 (lp k impl_ParseAct [] fu 6 n (qjp n0 x1 (IntKind.wrap .i64 (x2 + (1 : Int))) x3 x4 x5 x6 z7 l8 x9 x10 x11 (D.toInt (nth r48 0))))
 (cond (Nat.beq (Int.toNat x2) (41 : Nat))
 (lp k impl_ParseAct [] fu 6 n (qjp n0 x1 (IntKind.wrap .i64 (x2 + (1 : Int))) x3 x4 x5 x6 z7 l8 x9 x10 x11 (D.toInt (nth r48 0))))
 (cond (Nat.beq (Int.toNat x2) (42 : Nat))
 (lp k impl_ParseAct [] fu 6 n (qjp n0 x1 (IntKind.wrap .i64 (x2 + (1 : Int))) x3 x4 x5 x6 z7 l8 x9 x10 x11 (D.toInt (nth r48 0))))
 (cond (Nat.beq (Int.toNat x2) (43 : Nat))
 (lp k impl_ParseAct [] fu 6 n (qjp n0 x1 (IntKind.wrap .i64 (x2 + (1 : Int))) x3 x4 x5 x6 z7 l8 x9 x10 x11 (D.toInt (nth r48 0))))
 (cond (Nat.beq (Int.toNat x2) (44 : Nat))
 (lp k impl_ParseAct [] fu 6 n (qjp n0 x1 (IntKind.wrap .i64 (x2 + (1 : Int))) x3 x4 x5 x6 z7 l8 x9 x10 x11 (D.toInt (nth r48 0))))
 (cond (Nat.beq (Int.toNat x2) (45 : Nat))
 (lp k impl_ParseAct [] fu 6 n (qjp n0 x1 (IntKind.wrap .i64 (x2 + (1 : Int))) x3 x4 x5 x6 z7 l8 x9 x10 x11 (D.toInt (nth r48 0))))
 (cond (Nat.beq (Int.toNat x2) (46 : Nat))
 (lp k impl_ParseAct [] fu 6 n (qjp n0 x1 (IntKind.wrap .i64 (x2 + (1 : Int))) x3 x4 x5 x6 z7 l8 x9 x10 x11 (D.toInt (nth r48 0))))
 (cond (Nat.beq (Int.toNat x2) (47 : Nat))
 (lp k impl_ParseAct [] fu 6 n (qjp n0 x1 (IntKind.wrap .i64 (x2 + (1 : Int))) x3 x4 x5 x6 z7 l8 x9 x10 x11 (D.toInt (nth r48 0))))
 (lp k impl_ParseAct [] fu 6 n (qjp n0 x1 (IntKind.wrap .i64 (x2 + (1 : Int))) x3 x4 x5 x6 z7 l8 x9 x10 x11 (D.toInt (nth r48 0))))))))))))))))))))))))))))))))))))))))))))))))))))
 (none))))))))))))))))))))))))))))))))))))))))))))))))))
 (cond (Nat.beq (Int.toNat x2) (nat_lit 1))
 (cond (Nat.beq (Int.toNat x2) 0)
 (cond (decide ((0 : Int) ≤ IntKind.wrap .i64 (x2 + (1 : Int))) && decide (IntKind.wrap .i64 (x2 + (1 : Int)) < nI (List.length l8)))
 ((go k impl_parseNumber [(.str (List.getD l8 (Int.toNat (IntKind.wrap .i64 (x2 + (1 : Int)))) ByteArray.empty))]).bind fun r49 =>
 lp k impl_ParseAct [] fu 6 n (qjp n0 x1 (IntKind.wrap .i64 (x2 + (1 : Int))) x3 x4 x5 x6 z7 l8 x9 x10 (D.toInt (nth r49 0)) x12))
 (none))
 (cond (Nat.beq (Int.toNat x2) 1)
 (cond (decide ((0 : Int) ≤ IntKind.wrap .i64 (x2 + (1 : Int))) && decide (IntKind.wrap .i64 (x2 + (1 : Int)) < nI (List.length l8)))
 ((go k impl_parseNumber [(.str (List.getD l8 (Int.toNat (IntKind.wrap .i64 (x2 + (1 : Int)))) ByteArray.empty))]).bind fun r50 =>
 lp k impl_ParseAct [] fu 6 n (qjp n0 x1 (IntKind.wrap .i64 (x2 + (1 : Int))) x3 x4 x5 x6 z7 l8 x9 x10 (D.toInt (nth r50 0)) x12))
 (none))
 (cond (Nat.beq (Int.toNat x2) 2)
 (cond (decide ((0 : Int) ≤ IntKind.wrap .i64 (x2 + (1 : Int))) && decide (IntKind.wrap .i64 (x2 + (1 : Int)) < nI (List.length l8)))
 ((go k impl_parseNumber [(.str (List.getD l8 (Int.toNat (IntKind.wrap .i64 (x2 + (1 : Int)))) ByteArray.empty))]).bind fun r51 =>
 lp k impl_ParseAct [] fu 6 n (qjp n0 x1 (IntKind.wrap .i64 (x2 + (1 : Int))) x3 x4 x5 x6 z7 l8 x9 x10 (D.toInt (nth r51 0)) x12))
 (none))
 (cond (Nat.beq (Int.toNat x2) 3)
 (cond (decide ((0 : Int) ≤ IntKind.wrap .i64 (x2 + (1 : Int))) && decide (IntKind.wrap .i64 (x2 + (1 : Int)) < nI (List.length l8)))
 ((go k impl_parseNumber [(.str (List.getD l8 (Int.toNat (IntKind.wrap .i64 (x2 + (1 : Int)))) ByteArray.empty))]).bind fun r52 =>
 lp k impl_ParseAct [] fu 6 n (qjp n0 x1 (IntKind.wrap .i64 (x2 + (1 : Int))) x3 x4 x5 x6 z7 l8 x9 x10 (D.toInt (nth r52 0)) x12))
 (none))
 (cond (Nat.beq (Int.toNat x2) 4)
 (cond (decide ((0 : Int) ≤ IntKind.wrap .i64 (x2 + (1 : Int))) && decide (IntKind.wrap .i64 (x2 + (1 : Int)) < nI (List.length l8)))
 ((go k impl_parseNumber [(.str (List.getD l8 (Int.toNat (IntKind.wrap .i64 (x2 + (1 : Int)))) ByteArray.empty))]).bind fun r53 =>
 lp k impl_ParseAct [] fu 6 n (qjp n0 x1 (IntKind.wrap .i64 (x2 + (1 : Int))) x3 x4 x5 x6 z7 l8 x9 x10 (D.toInt (nth r53 0)) x12))
 (none))
 (cond (Nat.beq (Int.toNat x2) 5)
 (cond (decide ((0 : Int) ≤ IntKind.wrap .i64 (x2 + (1 : Int))) && decide (IntKind.wrap .i64 (x2 + (1 : Int)) < nI (List.length l8)))
 ((go k impl_parseNumber [(.str (List.getD l8 (Int.toNat (IntKind.wrap .i64 (x2 + (1 : Int)))) ByteArray.empty))]).bind fun r54 =>
 lp k impl_ParseAct [] fu 6 n (qjp n0 x1 (IntKind.wrap .i64 (x2 + (1 : Int))) x3 x4 x5 x6 z7 l8 x9 x10 (D.toInt (nth r54 0)) x12))
 (none))
 (cond (Nat.beq (Int.toNat x2) 6)
 (cond (decide ((0 : Int) ≤ IntKind.wrap .i64 (x2 + (1 : Int))) && decide (IntKind.wrap .i64 (x2 + (1 : Int)) < nI (List.length l8)))
 ((go k impl_parseNumber [(.str (List.getD l8 (Int.toNat (IntKind.wrap .i64 (x2 + (1 : Int)))) ByteArray.empty))]).bind fun r55 =>
 lp k impl_ParseAct [] fu 6 n (qjp n0 x1 (IntKind.wrap .i64 (x2 + (1 : Int))) x3 x4 x5 x6 z7 l8 x9 x10 (D.toInt (nth r55 0)) x12))
 (none))
 (cond (Nat.beq (Int.toNat x2) 7)
 (cond (decide ((0 : Int) ≤ IntKind.wrap .i64 (x2 + (1 : Int))) && decide (IntKind.wrap .i64 (x2 + (1 : Int)) < nI (List.length l8)))
 ((go k impl_parseNumber [(.str (List.getD l8 (Int.toNat (IntKind.wrap .i64 (x2 + (1 : Int)))) ByteArray.empty))]).bind fun r56 =>
 lp k impl_ParseAct [] fu 6 n (qjp n0 x1 (IntKind.wrap .i64 (x2 + (1 : Int))) x3 x4 x5 x6 z7 l8 x9 x10 (D.toInt (nth r56 0)) x12))
 (none))
 (cond (Nat.beq (Int.toNat x2) 8)
 (cond (decide ((0 : Int) ≤ IntKind.wrap .i64 (x2 + (1 : Int))) && decide (IntKind.wrap .i64 (x2 + (1 : Int)) < nI (List.length l8)))
 ((go k impl_parseNumber [(.str (List.getD l8 (Int.toNat (IntKind.wrap .i64 (x2 + (1 : Int)))) ByteArray.empty))]).bind fun r57 =>
 lp k impl_ParseAct [] fu 6 n (qjp n0 x1 (IntKind.wrap .i64 (x2 + (1 : Int))) x3 x4 x5 x6 z7 l8 x9 x10 (D.toInt (nth r57 0)) x12))
 (none))
 (cond (Nat.beq (Int.toNat x2) 9)
 (cond (decide ((0 : Int) ≤ IntKind.wrap .i64 (x2 + (1 : Int))) && decide (IntKind.wrap .i64 (x2 + (1 : Int)) < nI (List.length l8)))
 ((go k impl_parseNumber [(.str (List.getD l8 (Int.toNat (IntKind.wrap .i64 (x2 + (1 : Int)))) ByteArray.empty))]).bind fun r58 =>
 lp k impl_ParseAct [] fu 6 n (qjp n0 x1 (IntKind.wrap .i64 (x2 + (1 : Int))) x3 x4 x5 x6 z7 l8 x9 x10 (D.toInt (nth r58 0)) x12))
 (none))
 (cond (Nat.beq (Int.toNat x2) 10)
 (cond (decide ((0 : Int) ≤ IntKind.wrap .i64 (x2 + (1 : Int))) && decide (IntKind.wrap .i64 (x2 + (1 : Int)) < nI (List.length l8)))
 ((go k impl_parseNumber [(.str (List.getD l8 (Int.toNat (IntKind.wrap .i64 (x2 + (1 : Int)))) ByteArray.empty))]).bind fun r59 =>
 lp k impl_ParseAct [] fu 6 n (qjp n0 x1 (IntKind.wrap .i64 (x2 + (1 : Int))) x3 x4 x5 x6 z7 l8 x9 x10 (D.toInt (nth r59 0)) x12))
 (none))
 (cond (Nat.beq (Int.toNat x2) 11)
 (cond (decide ((0 : Int) ≤ IntKind.wrap .i64 (x2 + (1 : Int))) && decide (IntKind.wrap .i64 (x2 + (1 : Int)) < nI (List.length l8)))
 ((go k impl_parseNumber [(.str (List.getD l8 (Int.toNat (IntKind.wrap .i64 (x2 + (1 : Int)))) ByteArray.empty))]).bind fun r60 =>
 lp k impl_ParseAct [] fu 6 n (qjp n0 x1 (IntKind.wrap .i64 (x2 + (1 : Int))) x3 x4 x5 x6 z7 l8 x9 x10 (D.toInt (nth r60 0)) x12))
 (none))
 (cond (Nat.beq (Int.toNat x2) (12 : Nat))
 (cond (decide ((0 : Int) ≤ IntKind.wrap .i64 (x2 + (1 : Int))) && decide (IntKind.wrap .i64 (x2 + (1 : Int)) < nI (List.length l8)))
 ((go k impl_parseNumber [(.str (List.getD l8 (Int.toNat (IntKind.wrap .i64 (x2 + (1 : Int)))) ByteArray.empty))]).bind fun r61 =>
 lp k impl_ParseAct [] fu 6 n (qjp n0 x1 (IntKind.wrap .i64 (x2 + (1 : Int))) x3 x4 x5 x6 z7 l8 x9 x10 (D.toInt (nth r61 0)) x12))
 (none))
 (cond (Nat.beq (Int.toNat x2) (13 : Nat))
 (cond (decide ((0 : Int) ≤ IntKind.wrap .i64 (x2 + (1 : Int))) && decide (IntKind.wrap .i64 (x2 + (1 : Int)) < nI (List.length l8)))
 ((go k impl_parseNumber [(.str (List.getD l8 (Int.toNat (IntKind.wrap .i64 (x2 + (1 : Int)))) ByteArray.empty))]).bind fun r62 =>
 lp k impl_ParseAct [] fu 6 n (qjp n0 x1 (IntKind.wrap .i64 (x2 + (1 : Int))) x3 x4 x5 x6 z7 l8 x9 x10 (D.toInt (nth r62 0)) x12))
 (none))
 (cond (Nat.beq (Int.toNat x2) (14 : Nat))
 (cond (decide ((0 : Int) ≤ IntKind.wrap .i64 (x2 + (1 : Int))) && decide (IntKind.wrap .i64 (x2 + (1 : Int)) < nI (List.length l8)))
 ((go k impl_parseNumber [(.str (List.getD l8 (Int.toNat (IntKind.wrap .i64 (x2 + (1 : Int)))) ByteArray.empty))]).bind fun r63 =>
 lp k impl_ParseAct [] fu 6 n (qjp n0 x1 (IntKind.wrap .i64 (x2 + (1 : Int))) x3 x4 x5 x6 z7 l8 x9 x10 (D.toInt (nth r63 0)) x12))
 (none))
 (cond (Nat.beq (Int.toNat x2) (15 : Nat))
 (cond (decide ((0 : Int) ≤ IntKind.wrap .i64 (x2 + (1 : Int))) && decide (IntKind.wrap .i64 (x2 + (1 : Int)) < nI (List.length l8)))
 ((go k impl_parseNumber [(.str (List.getD l8 (Int.toNat (IntKind.wrap .i64 (x2 + (1 : Int)))) ByteArray.empty))]).bind fun r64 =>
 lp k impl_ParseAct [] fu 6 n (qjp n0 x1 (IntKind.wrap .i64 (x2 + (1 : Int))) x3 x4 x5 x6 z7 l8 x9 x10 (D.toInt (nth r64 0)) x12))
 (none))
 (cond (Nat.beq (Int.toNat x2) (16 : Nat))
 (cond (decide ((0 : Int) ≤ IntKind.wrap .i64 (x2 + (1 : Int))) && decide (IntKind.wrap .i64 (x2 + (1 : Int)) < nI (List.length l8)))
 ((go k impl_parseNumber [(.str (List.getD l8 (Int.toNat (IntKind.wrap .i64 (x2 + (1 : Int)))) ByteArray.empty))]).bind fun r65 =>
 lp k impl_ParseAct [] fu 6 n (qjp n0 x1 (IntKind.wrap .i64 (x2 + (1 : Int))) x3 x4 x5 x6 z7 l8 x9 x10 (D.toInt (nth r65 0)) x12))
 (none))
 (cond (Nat.beq (Int.toNat x2) (17 : Nat))
 (cond (decide ((0 : Int) ≤ IntKind.wrap .i64 (x2 + (1 : Int))) && decide (IntKind.wrap .i64 (x2 + (1 : Int)) < nI (List.length l8)))
 ((go k impl_parseNumber [(.str (List.getD l8 (Int.toNat (IntKind.wrap .i64 (x2 + (1 : Int)))) ByteArray.empty))]).bind fun r66 =>
 lp k impl_ParseAct [] fu 6 n (qjp n0 x1 (IntKind.wrap .i64 (x2 + (1 : Int))) x3 x4 x5 x6 z7 l8 x9 x10 (D.toInt (nth r66 0)) x12))
 (none))
 (cond (Nat.beq (Int.toNat x2) (18 : Nat))
 (cond (decide ((0 : Int) ≤ IntKind.wrap .i64 (x2 + (1 : Int))) && decide (IntKind.wrap .i64 (x2 + (1 : Int)) < nI (List.length l8)))
 ((go k impl_parseNumber [(.str (List.getD l8 (Int.toNat (IntKind.wrap .i64 (x2 + (1 : Int)))) ByteArray.empty))]).bind fun r67 =>
 lp k impl_ParseAct [] fu 6 n (qjp n0 x1 (IntKind.wrap .i64 (x2 + (1 : Int))) x3 x4 x5 x6 z7 l8 x9 x10 (D.toInt (nth r67 0)) x12))
 (none))
 (cond (Nat.beq (Int.toNat x2) (19 : Nat))
 (cond (decide ((0 : Int) ≤ IntKind.wrap .i64 (x2 + (1 : Int))) && decide (IntKind.wrap .i64 (x2 + (1 : Int)) < nI (List.length l8)))
 ((go k impl_parseNumber [(.str (List.getD l8 (Int.toNat (IntKind.wrap .i64 (x2 + (1 : Int)))) ByteArray.empty))]).bind fun r68 =>
 lp k impl_ParseAct [] fu 6 n (qjp n0 x1 (IntKind.wrap .i64 (x2 + (1 : Int))) x3 x4 x5 x6 z7 l8 x9 x10 (D.toInt (nth r68 0)) x12))
 (none))
 (cond (Nat.beq (Int.toNat x2) (20 : Nat))
 (cond (decide ((0 : Int) ≤ IntKind.wrap .i64 (x2 + (1 : Int))) && decide (IntKind.wrap .i64 (x2 + (1 : Int)) < nI (List.length l8)))
 ((go k impl_parseNumber [(.str (List.getD l8 (Int.toNat (IntKind.wrap .i64 (x2 + (1 : Int)))) ByteArray.empty))]).bind fun r69 =>
 lp k impl_ParseAct [] fu 6 n (qjp n0 x1 (IntKind.wrap .i64 (x2 + (1 : Int))) x3 x4 x5 x6 z7 l8 x9 x10 (D.toInt (nth r69 0)) x12))
 (none))
 (cond (Nat.beq (Int.toNat x2) (21 : Nat))
 (cond (decide ((0 : Int) ≤ IntKind.wrap .i64 (x2 + (1 : Int))) && decide (IntKind.wrap .i64 (x2 + (1 : Int)) < nI (List.length l8)))
 ((go k impl_parseNumber [(.str (List.getD l8 (Int.toNat (IntKind.wrap .i64 (x2 + (1 : Int)))) ByteArray.empty))]).bind fun r70 =>
 lp k impl_ParseAct [] fu 6 n (qjp n0 x1 (IntKind.wrap .i64 (x2 + (1 : Int))) x3 x4 x5 x6 z7 l8 x9 x10 (D.toInt (nth r70 0)) x12))
 (none))
 (cond (Nat.beq (Int.toNat x2) (22 : Nat))
 (cond (decide ((0 : Int) ≤ IntKind.wrap .i64 (x2 + (1 : Int))) && decide (IntKind.wrap .i64 (x2 + (1 : Int)) < nI (List.length l8)))
 ((go k impl_parseNumber [(.str (List.getD l8 (Int.toNat (IntKind.wrap .i64 (x2 + (1 : Int)))) ByteArray.empty))]).bind fun r71 =>
 lp k impl_ParseAct [] fu 6 n (qjp n0 x1 (IntKind.wrap .i64 (x2 + (1 : Int))) x3 x4 x5 x6 z7 l8 x9 x10 (D.toInt (nth r71 0)) x12))
 (none))
 (cond (Nat.beq (Int.toNat x2) (23 : Nat))
 (cond (decide ((0 : Int) ≤ IntKind.wrap .i64 (x2 + (1 : Int))) && decide (IntKind.wrap .i64 (x2 + (1 : Int)) < nI (List.length l8)))
 ((go k impl_parseNumber [(.str (List.getD l8 (Int.toNat (IntKind.wrap .i64 (x2 + (1 : Int)))) ByteArray.empty))]).bind fun r72 =>
 lp k impl_ParseAct [] fu 6 n (qjp n0 x1 (IntKind.wrap .i64 (x2 + (1 : Int))) x3 x4 x5 x6 z7 l8 x9 x10 (D.toInt (nth r72 0)) x12))
 (none))
 (cond (Nat.beq (Int.toNat x2) (24 : Nat))
 (cond (decide ((0 : Int) ≤ IntKind.wrap .i64 (x2 + (1 : Int))) && decide (IntKind.wrap .i64 (x2 + (1 : Int)) < nI (List.length l8)))
 ((go k impl_parseNumber [(.str (List.getD l8 (Int.toNat (IntKind.wrap .i64 (x2 + (1 : Int)))) ByteArray.empty))]).bind fun r73 =>
 lp k impl_ParseAct [] fu 6 n (qjp n0 x1 (IntKind.wrap .i64 (x2 + (1 : Int))) x3 x4 x5 x6 z7 l8 x9 x10 (D.toInt (nth r73 0)) x12))
 (none))
 (cond (Nat.beq (Int.toNat x2) (25 : Nat))
 (cond (decide ((0 : Int) ≤ IntKind.wrap .i64 (x2 + (1 : Int))) && decide (IntKind.wrap .i64 (x2 + (1 : Int)) < nI (List.length l8)))
 ((go k impl_parseNumber [(.str (List.getD l8 (Int.toNat (IntKind.wrap .i64 (x2 + (1 : Int)))) ByteArray.empty))]).bind fun r74 =>
 lp k impl_ParseAct [] fu 6 n (qjp n0 x1 (IntKind.wrap .i64 (x2 + (1 : Int))) x3 x4 x5 x6 z7 l8 x9 x10 (D.toInt (nth r74 0)) x12))
 (none))
 (cond (Nat.beq (Int.toNat x2) (26 : Nat))
 (cond (decide ((0 : Int) ≤ IntKind.wrap .i64 (x2 + (1 : Int))) && decide (IntKind.wrap .i64 (x2 + (1 : Int)) < nI (List.length l8)))
 ((go k impl_parseNumber [(.str (List.getD l8 (Int.toNat (IntKind.wrap .i64 (x2 + (1 : Int)))) ByteArray.empty))]).bind fun r75 =>
 lp k impl_ParseAct [] fu 6 n (qjp n0 x1 (IntKind.wrap .i64 (x2 + (1 : Int))) x3 x4 x5 x6 z7 l8 x9 x10 (D.toInt (nth r75 0)) x12))
 (none))
 (cond (Nat.beq (Int.toNat x2) (27 : Nat))
 (cond (decide ((0 : Int) ≤ IntKind.wrap .i64 (x2 + (1 : Int))) && decide (IntKind.wrap .i64 (x2 + (1 : Int)) < nI (List.length l8)))
 ((go k impl_parseNumber [(.str (List.getD l8 (Int.toNat (IntKind.wrap .i64 (x2 + (1 : Int)))) ByteArray.empty))]).bind fun r76 =>
 lp k impl_ParseAct [] fu 6 n (qjp n0 x1 (IntKind.wrap .i64 (x2 + (1 : Int))) x3 x4 x5 x6 z7 l8 x9 x10 (D.toInt (nth r76 0)) x12))
 (none))
 (cond (Nat.beq (Int.toNat x2) (28 : Nat))
 (cond (decide ((0 : Int) ≤ IntKind.wrap .i64 (x2 + (1 : Int))) && decide (IntKind.wrap .i64 (x2 + (1 : Int)) < nI (List.length l8)))
 ((go k impl_parseNumber [(.str (List.getD l8 (Int.toNat (IntKind.wrap .i64 (x2 + (1 : Int)))) ByteArray.empty))]).bind fun r77 =>
 lp k impl_ParseAct [] fu 6 n (qjp n0 x1 (IntKind.wrap .i64 (x2 + (1 : Int))) x3 x4 x5 x6 z7 l8 x9 x10 (D.toInt (nth r77 0)) x12))
 (none))
 (cond (Nat.beq (Int.toNat x2) (29 : Nat))
 (cond (decide ((0 : Int) ≤ IntKind.wrap .i64 (x2 + (1 : Int))) && decide (IntKind.wrap .i64 (x2 + (1 : Int)) < nI (List.length l8)))
 ((go k impl_parseNumber [(.str (List.getD l8 (Int.toNat (IntKind.wrap .i64 (x2 + (1 : Int)))) ByteArray.empty))]).bind fun r78 =>
 lp k impl_ParseAct [] fu 6 n (qjp n0 x1 (IntKind.wrap .i64 (x2 + (1 : Int))) x3 x4 x5 x6 z7 l8 x9 x10 (D.toInt (nth r78 0)) x12))
 (none))
 (cond (Nat.beq (Int.toNat x2) (30 : Nat))
 (cond (decide ((0 : Int) ≤ IntKind.wrap .i64 (x2 + (1 : Int))) && decide (IntKind.wrap .i64 (x2 + (1 : Int)) < nI (List.length l8)))
 ((go k impl_parseNumber [(.str (List.getD l8 (Int.toNat (IntKind.wrap .i64 (x2 + (1 : Int)))) ByteArray.empty))]).bind fun r79 =>
 lp k impl_ParseAct [] fu 6 n (qjp n0 x1 (IntKind.wrap .i64 (x2 + (1 : Int))) x3 x4 x5 x6 z7 l8 x9 x10 (D.toInt (nth r79 0)) x12))
 (none))
 (cond (Nat.beq (Int.toNat x2) (31 : Nat))
 (cond (decide ((0 : Int) ≤ IntKind.wrap .i64 (x2 + (1 : Int))) && decide (IntKind.wrap .i64 (x2 + (1 : Int)) < nI (List.length l8)))
 ((go k impl_parseNumber [(.str (List.getD l8 (Int.toNat (IntKind.wrap .i64 (x2 + (1 : Int)))) ByteArray.empty))]).bind fun r80 =>
 lp k impl_ParseAct [] fu 6 n (qjp n0 x1 (IntKind.wrap .i64 (x2 + (1 : Int))) x3 x4 x5 x6 z7 l8 x9 x10 (D.toInt (nth r80 0)) x12))
 (none))
 (cond (Nat.beq (Int.toNat x2) (32 : Nat))
 (cond (decide ((0 : Int) ≤ IntKind.wrap .i64 (x2 + (1 : Int))) && decide (IntKind.wrap .i64 (x2 + (1 : Int)) < nI (List.length l8)))
 ((go k impl_parseNumber [(.str (List.getD l8 (Int.toNat (IntKind.wrap .i64 (x2 + (1 : Int)))) ByteArray.empty))]).bind fun r81 =>
 lp k impl_ParseAct [] fu 6 n (qjp n0 x1 (IntKind.wrap .i64 (x2 + (1 : Int))) x3 x4 x5 x6 z7 l8 x9 x10 (D.toInt (nth r81 0)) x12))
 (none))
 (cond (Nat.beq (Int.toNat x2) (33 : Nat))
 (cond (decide ((0 : Int) ≤ IntKind.wrap .i64 (x2 + (1 : Int))) && decide (IntKind.wrap .i64 (x2 + (1 : Int)) < nI (List.length l8)))
 ((go k impl_parseNumber [(.str (List.getD l8 (Int.toNat (IntKind.wrap .i64 (x2 + (1 : Int)))) ByteArray.empty))]).bind fun r82 =>
 lp k impl_ParseAct [] fu 6 n (qjp n0 x1 (IntKind.wrap .i64 (x2 + (1 : Int))) x3 x4 x5 x6 z7 l8 x9 x10 (D.toInt (nth r82 0)) x12))
 (none))
 (cond (Nat.beq (Int.toNat x2) (34 : Nat))
 (cond (decide ((0 : Int) ≤ IntKind.wrap .i64 (x2 + (1 : Int))) && decide (IntKind.wrap .i64 (x2 + (1 : Int)) < nI (List.length l8)))
 ((go k impl_parseNumber [(.str (List.getD l8 (Int.toNat (IntKind.wrap .i64 (x2 + (1 : Int)))) ByteArray.empty))]).bind fun r83 =>
 lp k impl_ParseAct [] fu 6 n (qjp n0 x1 (IntKind.wrap .i64 (x2 + (1 : Int))) x3 x4 x5 x6 z7 l8 x9 x10 (D.toInt (nth r83 0)) x12))
 (none))
 (cond (Nat.beq (Int.toNat x2) (35 : Nat))
 (cond (decide ((0 : Int) ≤ IntKind.wrap .i64 (x2 + (1 : Int))) && decide (IntKind.wrap .i64 (x2 + (1 : Int)) < nI (List.length l8)))
 ((go k impl_parseNumber [(.str (List.getD l8 (Int.toNat (IntKind.wrap .i64 (x2 + (1 : Int)))) ByteArray.empty))]).bind fun r84 =>
 lp k impl_ParseAct [] fu 6 n (qjp n0 x1 (IntKind.wrap .i64 (x2 + (1 : Int))) x3 x4 x5 x6 z7 l8 x9 x10 (D.toInt (nth r84 0)) x12))
 (none))
 (cond (Nat.beq (Int.toNat x2) (36 : Nat))
 (cond (decide ((0 : Int) ≤ IntKind.wrap .i64 (x2 + (1 : Int))) && decide (IntKind.wrap .i64 (x2 + (1 : Int)) < nI (List.length l8)))
 ((go k impl_parseNumber [(.str (List.getD l8 (Int.toNat (IntKind.wrap .i64 (x2 + (1 : Int)))) ByteArray.empty))]).bind fun r85 =>
 lp k impl_ParseAct [] fu 6 n (qjp n0 x1 (IntKind.wrap .i64 (x2 + (1 : Int))) x3 x4 x5 x6 z7 l8 x9 x10 (D.toInt (nth r85 0)) x12))
 (none))
 (cond (Nat.beq (Int.toNat x2) (37 : Nat))
 (cond (decide ((0 : Int) ≤ IntKind.wrap .i64 (x2 + (1 : Int))) && decide (IntKind.wrap .i64 (x2 + (1 : Int)) < nI (List.length l8)))
 ((go k impl_parseNumber [(.str (List.getD l8 (Int.toNat (IntKind.wrap .i64 (x2 + (1 : Int)))) ByteArray.empty))]).bind fun r86 =>
 lp k impl_ParseAct [] fu 6 n (qjp n0 x1 (IntKind.wrap .i64 (x2 + (1 : Int))) x3 x4 x5 x6 z7 l8 x9 x10 (D.toInt (nth r86 0)) x12))
 (none))
 (cond (Nat.beq (Int.toNat x2) (38 : Nat))
 (cond (decide ((0 : Int) ≤ IntKind.wrap .i64 (x2 + (1 : Int))) && decide (IntKind.wrap .i64 (x2 + (1 : Int)) < nI (List.length l8)))
 ((go k impl_parseNumber [(.str (List.getD l8 (Int.toNat (IntKind.wrap .i64 (x2 + (1 : Int)))) ByteArray.empty))]).bind fun r87 =>
 lp k impl_ParseAct [] fu 6 n (qjp n0 x1 (IntKind.wrap .i64 (x2 + (1 : Int))) x3 x4 x5 x6 z7 l8 x9 x10 (D.toInt (nth r87 0)) x12))
 (none))
 (cond (Nat.beq (Int.toNat x2) (39 : Nat))
 (cond (decide ((0 : Int) ≤ IntKind.wrap .i64 (x2 + (1 : Int))) && decide (IntKind.wrap .i64 (x2 + (1 : Int)) < nI (List.length l8)))
 ((go k impl_parseNumber [(.str (List.getD l8 (Int.toNat (IntKind.wrap .i64 (x2 + (1 : Int)))) ByteArray.empty))]).bind fun r88 =>
 lp k impl_ParseAct [] fu 6 n (qjp n0 x1 (IntKind.wrap .i64 (x2 + (1 : Int))) x3 x4 x5 x6 z7 l8 x9 x10 (D.toInt (nth r88 0)) x12))
 (none))
 (cond (Nat.beq (Int.toNat x2) (40 : Nat))
 (cond (decide ((0 : Int) ≤ IntKind.wrap .i64 (x2 + (1 : Int))) && decide (IntKind.wrap .i64 (x2 + (1 : Int)) < nI (List.length l8)))
 ((go k impl_parseNumber [(.str (List.getD l8 (Int.toNat (IntKind.wrap .i64 (x2 + (1 : Int)))) ByteArray.empty))]).bind fun r89 =>
 lp k impl_ParseAct [] fu 6 n (qjp n0 x1 (IntKind.wrap .i64 (x2 + (1 : Int))) x3 x4 x5 x6 z7 l8 x9 x10 (D.toInt (nth r89 0)) x12))
 (none))
 (cond (Nat.beq (Int.toNat x2) (41 : Nat))
 (cond (decide ((0 : Int) ≤ IntKind.wrap .i64 (x2 + (1 : Int))) && decide (IntKind.wrap .i64 (x2 + (1 : Int)) < nI (List.length l8)))
 ((go k impl_parseNumber [(.str (List.getD l8 (Int.toNat (IntKind.wrap .i64 (x2 + (1 : Int)))) ByteArray.empty))]).bind fun r90 =>
 lp k impl_ParseAct [] fu 6 n (qjp n0 x1 (IntKind.wrap .i64 (x2 + (1 : Int))) x3 x4 x5 x6 z7 l8 x9 x10 (D.toInt (nth r90 0)) x12))
 (none))
 (cond (Nat.beq (Int.toNat x2) (42 : Nat))
 (cond (decide ((0 : Int) ≤ IntKind.wrap .i64 (x2 + (1 : Int))) && decide (IntKind.wrap .i64 (x2 + (1 : Int)) < nI (List.length l8)))
 ((go k impl_parseNumber [(.str (List.getD l8 (Int.toNat (IntKind.wrap .i64 (x2 + (1 : Int)))) ByteArray.empty))]).bind fun r91 =>
 lp k impl_ParseAct [] fu 6 n (qjp n0 x1 (IntKind.wrap .i64 (x2 + (1 : Int))) x3 x4 x5 x6 z7 l8 x9 x10 (D.toInt (nth r91 0)) x12))
 (none))
 (cond (Nat.beq (Int.toNat x2) (43 : Nat))
 (cond (decide ((0 : Int) ≤ IntKind.wrap .i64 (x2 + (1 : Int))) && decide (IntKind.wrap .i64 (x2 + (1 : Int)) < nI (List.length l8)))
 ((go k impl_parseNumber [(.str (List.getD l8 (Int.toNat (IntKind.wrap .i64 (x2 + (1 : Int)))) ByteArray.empty))]).bind fun r92 =>
 lp k impl_ParseAct [] fu 6 n (qjp n0 x1 (IntKind.wrap .i64 (x2 + (1 : Int))) x3 x4 x5 x6 z7 l8 x9 x10 (D.toInt (nth r92 0)) x12))
 (none))
 (cond (Nat.beq (Int.toNat x2) (44 : Nat))
 (cond (decide ((0 : Int) ≤ IntKind.wrap .i64 (x2 + (1 : Int))) && decide (IntKind.wrap .i64 (x2 + (1 : Int)) < nI (List.length l8)))
 ((go k impl_parseNumber [(.str (List.getD l8 (Int.toNat (IntKind.wrap .i64 (x2 + (1 : Int)))) ByteArray.empty))]).bind fun r93 =>
 lp k impl_ParseAct [] fu 6 n (qjp n0 x1 (IntKind.wrap .i64 (x2 + (1 : Int))) x3 x4 x5 x6 z7 l8 x9 x10 (D.toInt (nth r93 0)) x12))
 (none))
 (cond (Nat.beq (Int.toNat x2) (45 : Nat))
 (cond (decide ((0 : Int) ≤ IntKind.wrap .i64 (x2 + (1 : Int))) && decide (IntKind.wrap .i64 (x2 + (1 : Int)) < nI (List.length l8)))
 ((go k impl_parseNumber [(.str (List.getD l8 (Int.toNat (IntKind.wrap .i64 (x2 + (1 : Int)))) ByteArray.empty))]).bind fun r94 =>
 lp k impl_ParseAct [] fu 6 n (qjp n0 x1 (IntKind.wrap .i64 (x2 + (1 : Int))) x3 x4 x5 x6 z7 l8 x9 x10 (D.toInt (nth r94 0)) x12))
 (none))
 (cond (Nat.beq (Int.toNat x2) (46 : Nat))
 (cond (decide ((0 : Int) ≤ IntKind.wrap .i64 (x2 + (1 : Int))) && decide (IntKind.wrap .i64 (x2 + (1 : Int)) < nI (List.length l8)))
 ((go k impl_parseNumber [(.str (List.getD l8 (Int.toNat (IntKind.wrap .i64 (x2 + (1 : Int)))) ByteArray.empty))]).bind fun r95 =>
 lp k impl_ParseAct [] fu 6 n (qjp n0 x1 (IntKind.wrap .i64 (x2 + (1 : Int))) x3 x4 x5 x6 z7 l8 x9 x10 (D.toInt (nth r95 0)) x12))
 (none))
 (cond (Nat.beq (Int.toNat x2) (47 : Nat))
 (cond (decide ((0 : Int) ≤ IntKind.wrap .i64 (x2 + (1 : Int))) && decide (IntKind.wrap .i64 (x2 + (1 : Int)) < nI (List.length l8)))
 ((go k impl_parseNumber [(.str (List.getD l8 (Int.toNat (IntKind.wrap .i64 (x2 + (1 : Int)))) ByteArray.empty))]).bind fun r96 =>
 lp k impl_ParseAct [] fu 6 n (qjp n0 x1 (IntKind.wrap .i64 (x2 + (1 : Int))) x3 x4 x5 x6 z7 l8 x9 x10 (D.toInt (nth r96 0)) x12))
 (none))
 (cond (decide ((0 : Int) ≤ IntKind.wrap .i64 (x2 + (1 : Int))) && decide (IntKind.wrap .i64 (x2 + (1 : Int)) < nI (List.length l8)))
 ((go k impl_parseNumber [(.str (List.getD l8 (Int.toNat (IntKind.wrap .i64 (x2 + (1 : Int)))) ByteArray.empty))]).bind fun r97 =>
 cond (Nat.beq (Int.toNat x2) 0)
 (lp k impl_ParseAct [] fu 6 n (qjp n0 x1 (IntKind.wrap .i64 (x2 + (1 : Int))) x3 x4 x5 x6 z7 l8 x9 x10 (D.toInt (nth r97 0)) x12))
 (cond (Nat.beq (Int.toNat x2) 1)
 (lp k impl_ParseAct [] fu 6 n (qjp n0 x1 (IntKind.wrap .i64 (x2 + (1 : Int))) x3 x4 x5 x6 z7 l8 x9 x10 (D.toInt (nth r97 0)) x12))
 (cond (Nat.beq (Int.toNat x2) 2)
 (lp k impl_ParseAct [] fu 6 n (qjp n0 x1 (IntKind.wrap .i64 (x2 + (1 : Int))) x3 x4 x5 x6 z7 l8 x9 x10 (D.toInt (nth r97 0)) x12))
 (cond (Nat.beq (Int.toNat x2) 3)
 (lp k impl_ParseAct [] fu 6 n (qjp n0 x1 (IntKind.wrap .i64 (x2 + (1 : Int))) x3 x4 x5 x6 z7 l8 x9 x10 (D.toInt (nth r97 0)) x12))
 (cond (Nat.beq (Int.toNat x2) 4)
 (lp k impl_ParseAct [] fu 6 n (qjp n0 x1 (IntKind.wrap .i64 (x2 + (1 : Int))) x3 x4 x5 x6 z7 l8 x9 x10 (D.toInt (nth r97 0)) x12))
 (cond (Nat.beq (Int.toNat x2) 5)
 (lp k impl_ParseAct [] fu 6 n (qjp n0 x1 (IntKind.wrap .i64 (x2 + (1 : Int))) x3 x4 x5 x6 z7 l8 x9 x10 (D.toInt (nth r97 0)) x12))
 (cond (Nat.beq (Int.toNat x2) 6)
 (lp k impl_ParseAct [] fu 6 n (qjp n0 x1 (IntKind.wrap .i64 (x2 + (1 : Int))) x3 x4 x5 x6 z7 l8 x9 x10 (D.toInt (nth r97 0)) x12))
 (cond (Nat.beq (Int.toNat x2) 7)
 (lp k impl_ParseAct [] fu 6 n (qjp n0 x1 (IntKind.wrap .i64 (x2 + (1 : Int))) x3 x4 x5 x6 z7 l8 x9 x10 (D.toInt (nth r97 0)) x12))
 (cond (Nat.beq (Int.toNat x2) 8)
 (lp k impl_ParseAct [] fu 6 n (qjp n0 x1 (IntKind.wrap .i64 (x2 + (1 : Int))) x3 x4 x5 x6 z7 l8 x9 x10 (D.toInt (nth r97 0)) x12))
 (cond (Nat.beq (Int.toNat x2) 9)
 (lp k impl_ParseAct [] fu 6 n (qjp n0 x1 (IntKind.wrap .i64 (x2 + (1 : Int))) x3 x4 x5 x6 z7 l8 x9 x10 (D.toInt (nth r97 0)) x12))
 (cond (Nat.beq (Int.toNat x2) 10)
 (lp k impl_ParseAct [] fu 6 n (qjp n0 x1 (IntKind.wrap .i64 (x2 + (1 : Int))) x3 x4 x5 x6 z7 l8 x9 x10 (D.toInt (nth r97 0)) x12))
 (cond (Nat.beq (Int.toNat x2) 11)
 (lp k impl_ParseAct [] fu 6 n (qjp n0 x1 (IntKind.wrap .i64 (x2 + (1 : Int))) x3 x4 x5 x6 z7 l8 x9 x10 (D.toInt (nth r97 0)) x12))
 (cond (Nat.beq (Int.toNat x2) (12 : Nat))
 (lp k impl_ParseAct [] fu 6 n (qjp n0 x1 (IntKind.wrap .i64 (x2 + (1 : Int))) x3 x4 x5 x6 z7 l8 x9 x10 (D.toInt (nth r97 0)) x12))
 (cond (Nat.beq (Int.toNat x2) (13 : Nat))
 (lp k impl_ParseAct [] fu 6 n (qjp n0 x1 (IntKind.wrap .i64 (x2 + (1 : Int))) x3 x4 x5 x6 z7 l8 x9 x10 (D.toInt (nth r97 0)) x12))
 (cond (Nat.beq (Int.toNat x2) (14 : Nat))
 (lp k impl_ParseAct [] fu 6 n (qjp n0 x1 (IntKind.wrap .i64 (x2 + (1 : Int))) x3 x4 x5 x6 z7 l8 x9 x10 (D.toInt (nth r97 0)) x12))
 (cond (Nat.beq (Int.toNat x2) (15 : Nat))
 (lp k impl_ParseAct [] fu 6 n (qjp n0 x1 (IntKind.wrap .i64 (x2 + (1 : Int))) x3 x4 x5 x6 z7 l8 x9 x10 (D.toInt (nth r97 0)) x12))
 (cond (Nat.beq (Int.toNat x2) (16 : Nat))
 (lp k impl_ParseAct [] fu 6 n (qjp n0 x1 (IntKind.wrap .i64 (x2 + (1 : Int))) x3 x4 x5 x6 z7 l8 x9 x10 (D.toInt (nth r97 0)) x12))
 (cond (Nat.beq (Int.toNat x2) (17 : Nat))
 (lp k impl_ParseAct [] fu 6 n (qjp n0 x1 (IntKind.wrap .i64 (x2 + (1 : Int))) x3 x4 x5 x6 z7 l8 x9 x10 (D.toInt (nth r97 0)) x12))
 (cond (Nat.beq (Int.toNat x2) (18 : Nat))
 (lp k impl_ParseAct [] fu 6 n (qjp n0 x1 (IntKind.wrap .i64 (x2 + (1 : Int))) x3 x4 x5 x6 z7 l8 x9 x10 (D.toInt (nth r97 0)) x12))
 (cond (Nat.beq (Int.toNat x2) (19 : Nat))
 (lp k impl_ParseAct [] fu 6 n (qjp n0 x1 (IntKind.wrap .i64 (x2 + (1 : Int))) x3 x4 x5 x6 z7 l8 x9 x10 (D.toInt (nth r97 0)) x12))
 (cond (Nat.beq (Int.toNat x2) (20 : Nat))
 (lp k impl_ParseAct [] fu 6 n (qjp n0 x1 (IntKind.wrap .i64 (x2 + (1 : Int))) x3 x4 x5 x6 z7 l8 x9 x10 (D.toInt (nth r97 0)) x12))
 (cond (Nat.beq (Int.toNat x2) (21 : Nat))
 (lp k impl_ParseAct [] fu 6 n (qjp n0 x1 (IntKind.wrap .i64 (x2 + (1 : Int))) x3 x4 x5 x6 z7 l8 x9 x10 (D.toInt (nth r97 0)) x12))
 (cond (Nat.beq (Int.toNat x2) (22 : Nat))
 (lp k impl_ParseAct [] fu 6 n (qjp n0 x1 (IntKind.wrap .i64 (x2 + (1 : Int))) x3 x4 x5 x6 z7 l8 x9 x10 (D.toInt (nth r97 0)) x12))
 (cond (Nat.beq (Int.toNat x2) (23 : Nat))
 (lp k impl_ParseAct [] fu 6 n (qjp n0 x1 (IntKind.wrap .i64 (x2 + (1 : Int))) x3 x4 x5 x6 z7 l8 x9 x10 (D.toInt (nth r97 0)) x12))
 (cond (Nat.beq (Int.toNat x2) (24 : Nat))
 (lp k impl_ParseAct [] fu 6 n (qjp n0 x1 (IntKind.wrap .i64 (x2 + (1 : Int))) x3 x4 x5 x6 z7 l8 x9 x10 (D.toInt (nth r97 0)) x12))
 (cond (Nat.beq (Int.toNat x2) (25 : Nat))
 (lp k impl_ParseAct [] fu 6 n (qjp n0 x1 (IntKind.wrap .i64 (x2 + (1 : Int))) x3 x4 x5 x6 z7 l8 x9 x10 (D.toInt (nth r97 0)) x12))
 (cond (Nat.beq (Int.toNat x2) (26 : Nat))
 (lp k impl_ParseAct [] fu 6 n (qjp n0 x1 (IntKind.wrap .i64 (x2 + (1 : Int))) x3 x4 x5 x6 z7 l8 x9 x10 (D.toInt (nth r97 0)) x12))
 (cond (Nat.beq (Int.toNat x2) (27 : Nat))
 (lp k impl_ParseAct [] fu 6 n (qjp n0 x1 (IntKind.wrap .i64 (x2 + (1 : Int))) x3 x4 x5 x6 z7 l8 x9 x10 (D.toInt (nth r97 0)) x12))
 (cond (Nat.beq (Int.toNat x2) (28 : Nat))
 (lp k impl_ParseAct [] fu 6 n (qjp n0 x1 (IntKind.wrap .i64 (x2 + (1 : Int))) x3 x4 x5 x6 z7 l8 x9 x10 (D.toInt (nth r97 0)) x12))
 (cond (Nat.beq (Int.toNat x2) (29 : Nat))
 (lp k impl_ParseAct [] fu 6 n (qjp n0 x1 (IntKind.wrap .i64 (x2 + (1 : Int))) x3 x4 x5 x6 z7 l8 x9 x10 (D.toInt (nth r97 0)) x12))
 (cond (Nat.beq (Int.toNat x2) (30 : Nat))
 (lp k impl_ParseAct [] fu 6 n (qjp n0 x1 (IntKind.wrap .i64 (x2 + (1 : Int))) x3 x4 x5 x6 z7 l8 x9 x10 (D.toInt (nth r97 0)) x12))
 (cond (Nat.beq (Int.toNat x2) (31 : Nat))
 (lp k impl_ParseAct [] fu 6 n (qjp n0 x1 (IntKind.wrap .i64 (x2 + (1 : Int))) x3 x4 x5 x6 z7 l8 x9 x10 (D.toInt (nth r97 0)) x12))
 (cond (Nat.beq (Int.toNat x2) (32 : Nat))
 (lp k impl_ParseAct [] fu 6 n (qjp n0 x1 (IntKind.wrap .i64 (x2 + (1 : Int))) x3 x4 x5 x6 z7 l8 x9 x10 (D.toInt (nth r97 0)) x12))
 (cond (Nat.beq (Int.toNat x2) (33 : Nat))
 (lp k impl_ParseAct [] fu 6 n (qjp n0 x1 (IntKind.wrap .i64 (x2 + (1 : Int))) x3 x4 x5 x6 z7 l8 x9 x10 (D.toInt (nth r97 0)) x12))
 (cond (Nat.beq (Int.toNat x2) (34 : Nat))
 (lp k impl_ParseAct [] fu 6 n (qjp n0 x1 (IntKind.wrap .i64 (x2 + (1 : Int))) x3 x4 x5 x6 z7 l8 x9 x10 (D.toInt (nth r97 0)) x12))
 (cond (Nat.beq (Int.toNat x2) (35 : Nat))
 (lp k impl_ParseAct [] fu 6 n (qjp n0 x1 (IntKind.wrap .i64 (x2 + (1 : Int))) x3 x4 x5 x6 z7 l8 x9 x10 (D.toInt (nth r97 0)) x12))
 (cond (Nat.beq (Int.toNat x2) (36 : Nat))
 (lp k impl_ParseAct [] fu 6 n (qjp n0 x1 (IntKind.wrap .i64 (x2 + (1 : Int))) x3 x4 x5 x6 z7 l8 x9 x10 (D.toInt (nth r97 0)) x12))
 (cond (Nat.beq (Int.toNat x2) (37 : Nat))
 (lp k impl_ParseAct [] fu 6 n (qjp n0 x1 (IntKind.wrap .i64 (x2 + (1 : Int))) x3 x4 x5 x6 z7 l8 x9 x10 (D.toInt (nth r97 0)) x12))
 (cond (Nat.beq (Int.toNat x2) (38 : Nat))
 (lp k impl_ParseAct [] fu 6 n (qjp n0 x1 (IntKind.wrap .i64 (x2 + (1 : Int))) x3 x4 x5 x6 z7 l8 x9 x10 (D.toInt (nth r97 0)) x12))
 (cond (Nat.beq (Int.toNat x2) (39 : Nat))
 (lp k impl_ParseAct [] fu 6 n (qjp n0 x1 (IntKind.wrap .i64 (x2 + (1 : Int))) x3 x4 x5 x6 z7 l8 x9 x10 (D.toInt (nth r97 0)) x12))
 (cond (Nat.beq (Int.toNat x2) (40 : Nat))
 (lp k impl_ParseAct [] fu 6 n (qjp n0 x1 (IntKind.wrap .i64 (x2 + (1 : Int))) x3 x4 x5 x6 z7 l8 x9 x10 (D.toInt (nth r97 0)) x12))
 (cond (Nat.beq (Int.toNat x2) (41 : Nat))
 (lp k impl_ParseAct [] fu 6 n (qjp n0 x1 (IntKind.wrap .i64 (x2 + (1 : Int))) x3 x4 x5 x6 z7 l8 x9 x10 (D.toInt (nth r97 0)) x12))
 (cond (Nat.beq (Int.toNat x2) (42 : Nat))
 (lp k impl_ParseAct [] fu 6 n (qjp n0 x1 (IntKind.wrap .i64 (x2 + (1 : Int))) x3 x4 x5 x6 z7 l8 x9 x10 (D.toInt (nth r97 0)) x12))
 (cond (Nat.beq (Int.toNat x2) (43 : Nat))
 (lp k impl_ParseAct [] fu 6 n (qjp n0 x1 (IntKind.wrap .i64 (x2 + (1 : Int))) x3 x4 x5 x6 z7 l8 x9 x10 (D.toInt (nth r97 0)) x12))
 (cond (Nat.beq (Int.toNat x2) (44 : Nat))
 (lp k impl_ParseAct [] fu 6 n (qjp n0 x1 (IntKind.wrap .i64 (x2 + (1 : Int))) x3 x4 x5 x6 z7 l8 x9 x10 (D.toInt (nth r97 0)) x12))
 (cond (Nat.beq (Int.toNat x2) (45 : Nat))
 (lp k impl_ParseAct [] fu 6 n (qjp n0 x1 (IntKind.wrap .i64 (x2 + (1 : Int))) x3 x4 x5 x6 z7 l8 x9 x10 (D.toInt (nth r97 0)) x12))
 (cond (Nat.beq (Int.toNat x2) (46 : Nat))
 (lp k impl_ParseAct [] fu 6 n (qjp n0 x1 (IntKind.wrap .i64 (x2 + (1 : Int))) x3 x4 x5 x6 z7 l8 x9 x10 (D.toInt (nth r97 0)) x12))
 (cond (Nat.beq (Int.toNat x2) (47 : Nat))
 (lp k impl_ParseAct [] fu 6 n (qjp n0 x1 (IntKind.wrap .i64 (x2 + (1 : Int))) x3 x4 x5 x6 z7 l8 x9 x10 (D.toInt (nth r97 0)) x12))
 (lp k impl_ParseAct [] fu 6 n (qjp n0 x1 (IntKind.wrap .i64 (x2 + (1 : Int))) x3 x4 x5 x6 z7 l8 x9 x10 (D.toInt (nth r97 0)) x12))))))))))))))))))))))))))))))))))))))))))))))))))
 (none))))))))))))))))))))))))))))))))))))))))))))))))))
 (cond (Nat.beq (Int.toNat x2) (nat_lit 0))
 (cond (Nat.beq (Int.toNat x2) 0)
 (cond (decide ((0 : Int) ≤ IntKind.wrap .i64 (x2 + (1 : Int))) && decide (IntKind.wrap .i64 (x2 + (1 : Int)) < nI (List.length l8)))
 ((go k impl_parseNumber [(.str (List.getD l8 (Int.toNat (IntKind.wrap .i64 (x2 + (1 : Int)))) ByteArray.empty))]).bind fun r98 =>
 lp k impl_ParseAct [] fu 6 n (qjp n0 x1 (IntKind.wrap .i64 (x2 + (1 : Int))) x3 x4 x5 x6 z7 l8 x9 (D.toInt (nth r98 0)) x11 x12))
 (none))
 (cond (Nat.beq (Int.toNat x2) 1)
 (cond (decide ((0 : Int) ≤ IntKind.wrap .i64 (x2 + (1 : Int))) && decide (IntKind.wrap .i64 (x2 + (1 : Int)) < nI (List.length l8)))
 ((go k impl_parseNumber [(.str (List.getD l8 (Int.toNat (IntKind.wrap .i64 (x2 + (1 : Int)))) ByteArray.empty))]).bind fun r99 =>
 lp k impl_ParseAct [] fu 6 n (qjp n0 x1 (IntKind.wrap .i64 (x2 + (1 : Int))) x3 x4 x5 x6 z7 l8 x9 (D.toInt (nth r99 0)) x11 x12))
 (none))
 (cond (Nat.beq (Int.toNat x2) 2)
 (cond (decide ((0 : Int) ≤ IntKind.wrap .i64 (x2 + (1 : Int))) && decide (IntKind.wrap .i64 (x2 + (1 : Int)) < nI (List.length l8)))
 ((go k impl_parseNumber [(.str (List.getD l8 (Int.toNat (IntKind.wrap .i64 (x2 + (1 : Int)))) ByteArray.empty))]).bind fun r100 =>
 lp k impl_ParseAct [] fu 6 n (qjp n0 x1 (IntKind.wrap .i64 (x2 + (1 : Int))) x3 x4 x5 x6 z7 l8 x9 (D.toInt (nth r100 0)) x11 x12))
 (none))
 (cond (Nat.beq (Int.toNat x2) 3)
 (cond (decide ((0 : Int) ≤ IntKind.wrap .i64 (x2 + (1 : Int))) && decide (IntKind.wrap .i64 (x2 + (1 : Int)) < nI (List.length l8)))
 ((go k impl_parseNumber [(.str (List.getD l8 (Int.toNat (IntKind.wrap .i64 (x2 + (1 : Int)))) ByteArray.empty))]).bind fun r101 =>
 lp k impl_ParseAct [] fu 6 n (qjp n0 x1 (IntKind.wrap .i64 (x2 + (1 : Int))) x3 x4 x5 x6 z7 l8 x9 (D.toInt (nth r101 0)) x11 x12))
 (none))
 (cond (Nat.beq (Int.toNat x2) 4)
 (cond (decide ((0 : Int) ≤ IntKind.wrap .i64 (x2 + (1 : Int))) && decide (IntKind.wrap .i64 (x2 + (1 : Int)) < nI (List.length l8)))
 ((go k impl_parseNumber [(.str (List.getD l8 (Int.toNat (IntKind.wrap .i64 (x2 + (1 : Int)))) ByteArray.empty))]).bind fun r102 =>
 lp k impl_ParseAct [] fu 6 n (qjp n0 x1 (IntKind.wrap .i64 (x2 + (1 : Int))) x3 x4 x5 x6 z7 l8 x9 (D.toInt (nth r102 0)) x11 x12))
 (none))
 (cond (Nat.beq (Int.toNat x2) 5)
 (cond (decide ((0 : Int) ≤ IntKind.wrap .i64 (x2 + (1 : Int))) && decide (IntKind.wrap .i64 (x2 + (1 : Int)) < nI (List.length l8)))
 ((go k impl_parseNumber [(.str (List.getD l8 (Int.toNat (IntKind.wrap .i64 (x2 + (1 : Int)))) ByteArray.empty))]).bind fun r103 =>
 lp k impl_ParseAct [] fu 6 n (qjp n0 x1 (IntKind.wrap .i64 (x2 + (1 : Int))) x3 x4 x5 x6 z7 l8 x9 (D.toInt (nth r103 0)) x11 x12))
 (none))
 (cond (Nat.beq (Int.toNat x2) 6)
 (cond (decide ((0 : Int) ≤ IntKind.wrap .i64 (x2 + (1 : Int))) && decide (IntKind.wrap .i64 (x2 + (1 : Int)) < nI (List.length l8)))
 ((go k impl_parseNumber [(.str (List.getD l8 (Int.toNat (IntKind.wrap .i64 (x2 + (1 : Int)))) ByteArray.empty))]).bind fun r104 =>
 lp k impl_ParseAct [] fu 6 n (qjp n0 x1 (IntKind.wrap .i64 (x2 + (1 : Int))) x3 x4 x5 x6 z7 l8 x9 (D.toInt (nth r104 0)) x11 x12))
 (none))
 (cond (Nat.beq (Int.toNat x2) 7)
 (cond (decide ((0 : Int) ≤ IntKind.wrap .i64 (x2 + (1 : Int))) && decide (IntKind.wrap .i64 (x2 + (1 : Int)) < nI (List.length l8)))
 ((go k impl_parseNumber [(.str (List.getD l8 (Int.toNat (IntKind.wrap .i64 (x2 + (1 : Int)))) ByteArray.empty))]).bind fun r105 =>
 lp k impl_ParseAct [] fu 6 n (qjp n0 x1 (IntKind.wrap .i64 (x2 + (1 : Int))) x3 x4 x5 x6 z7 l8 x9 (D.toInt (nth r105 0)) x11 x12))
 (none))
 (cond (Nat.beq (Int.toNat x2) 8)
 (cond (decide ((0 : Int) ≤ IntKind.wrap .i64 (x2 + (1 : Int))) && decide (IntKind.wrap .i64 (x2 + (1 : Int)) < nI (List.length l8)))
 ((go k impl_parseNumber [(.str (List.getD l8 (Int.toNat (IntKind.wrap .i64 (x2 + (1 : Int)))) ByteArray.empty))]).bind fun r106 =>
 lp k impl_ParseAct [] fu 6 n (qjp n0 x1 (IntKind.wrap .i64 (x2 + (1 : Int))) x3 x4 x5 x6 z7 l8 x9 (D.toInt (nth r106 0)) x11 x12))
 (none))
 (cond (Nat.beq (Int.toNat x2) 9)
 (cond (decide ((0 : Int) ≤ IntKind.wrap .i64 (x2 + (1 : Int))) && decide (IntKind.wrap .i64 (x2 + (1 : Int)) < nI (List.length l8)))
 ((go k impl_parseNumber [(.str (List.getD l8 (Int.toNat (IntKind.wrap .i64 (x2 + (1 : Int)))) ByteArray.empty))]).bind fun r107 =>
 lp k impl_ParseAct [] fu 6 n (qjp n0 x1 (IntKind.wrap .i64 (x2 + (1 : Int))) x3 x4 x5 x6 z7 l8 x9 (D.toInt (nth r107 0)) x11 x12))
 (none))
 (cond (Nat.beq (Int.toNat x2) 10)
 (cond (decide ((0 : Int) ≤ IntKind.wrap .i64 (x2 + (1 : Int))) && decide (IntKind.wrap .i64 (x2 + (1 : Int)) < nI (List.length l8)))
 ((go k impl_parseNumber [(.str (List.getD l8 (Int.toNat (IntKind.wrap .i64 (x2 + (1 : Int)))) ByteArray.empty))]).bind fun r108 =>
 lp k impl_ParseAct [] fu 6 n (qjp n0 x1 (IntKind.wrap .i64 (x2 + (1 : Int))) x3 x4 x5 x6 z7 l8 x9 (D.toInt (nth r108 0)) x11 x12))
 (none))
 (cond (Nat.beq (Int.toNat x2) 11)
 (cond (decide ((0 : Int) ≤ IntKind.wrap .i64 (x2 + (1 : Int))) && decide (IntKind.wrap .i64 (x2 + (1 : Int)) < nI (List.length l8)))
 ((go k impl_parseNumber [(.str (List.getD l8 (Int.toNat (IntKind.wrap .i64 (x2 + (1 : Int)))) ByteArray.empty))]).bind fun r109 =>
 lp k impl_ParseAct [] fu 6 n (qjp n0 x1 (IntKind.wrap .i64 (x2 + (1 : Int))) x3 x4 x5 x6 z7 l8 x9 (D.toInt (nth r109 0)) x11 x12))
 (none))
 (cond (Nat.beq (Int.toNat x2) (12 : Nat))
 (cond (decide ((0 : Int) ≤ IntKind.wrap .i64 (x2 + (1 : Int))) && decide (IntKind.wrap .i64 (x2 + (1 : Int)) < nI (List.length l8)))
 ((go k impl_parseNumber [(.str (List.getD l8 (Int.toNat (IntKind.wrap .i64 (x2 + (1 : Int)))) ByteArray.empty))]).bind fun r110 =>
 lp k impl_ParseAct [] fu 6 n (qjp n0 x1 (IntKind.wrap .i64 (x2 + (1 : Int))) x3 x4 x5 x6 z7 l8 x9 (D.toInt (nth r110 0)) x11 x12))
 (none))
 (cond (Nat.beq (Int.toNat x2) (13 : Nat))
 (cond (decide ((0 : Int) ≤ IntKind.wrap .i64 (x2 + (1 : Int))) && decide (IntKind.wrap .i64 (x2 + (1 : Int)) < nI (List.length l8)))
 ((go k impl_parseNumber [(.str (List.getD l8 (Int.toNat (IntKind.wrap .i64 (x2 + (1 : Int)))) ByteArray.empty))]).bind fun r111 =>
 lp k impl_ParseAct [] fu 6 n (qjp n0 x1 (IntKind.wrap .i64 (x2 + (1 : Int))) x3 x4 x5 x6 z7 l8 x9 (D.toInt (nth r111 0)) x11 x12))
 (none))
 (cond (Nat.beq (Int.toNat x2) (14 : Nat))
 (cond (decide ((0 : Int) ≤ IntKind.wrap .i64 (x2 + (1 : Int))) && decide (IntKind.wrap .i64 (x2 + (1 : Int)) < nI (List.length l8)))
 ((go k impl_parseNumber [(.str (List.getD l8 (Int.toNat (IntKind.wrap .i64 (x2 + (1 : Int)))) ByteArray.empty))]).bind fun r112 =>
 lp k impl_ParseAct [] fu 6 n (qjp n0 x1 (IntKind.wrap .i64 (x2 + (1 : Int))) x3 x4 x5 x6 z7 l8 x9 (D.toInt (nth r112 0)) x11 x12))
 (none))
 (cond (Nat.beq (Int.toNat x2) (15 : Nat))
 (cond (decide ((0 : Int) ≤ IntKind.wrap .i64 (x2 + (1 : Int))) && decide (IntKind.wrap .i64 (x2 + (1 : Int)) < nI (List.length l8)))
 ((go k impl_parseNumber [(.str (List.getD l8 (Int.toNat (IntKind.wrap .i64 (x2 + (1 : Int)))) ByteArray.empty))]).bind fun r113 =>
 lp k impl_ParseAct [] fu 6 n (qjp n0 x1 (IntKind.wrap .i64 (x2 + (1 : Int))) x3 x4 x5 x6 z7 l8 x9 (D.toInt (nth r113 0)) x11 x12))
 (none))
 (cond (Nat.beq (Int.toNat x2) (16 : Nat))
 (cond (decide ((0 : Int) ≤ IntKind.wrap .i64 (x2 + (1 : Int))) && decide (IntKind.wrap .i64 (x2 + (1 : Int)) < nI (List.length l8)))
 ((go k impl_parseNumber [(.str (List.getD l8 (Int.toNat (IntKind.wrap .i64 (x2 + (1 : Int)))) ByteArray.empty))]).bind fun r114 =>
 lp k impl_ParseAct [] fu 6 n (qjp n0 x1 (IntKind.wrap .i64 (x2 + (1 : Int))) x3 x4 x5 x6 z7 l8 x9 (D.toInt (nth r114 0)) x11 x12))
 (none))
 (cond (Nat.beq (Int.toNat x2) (17 : Nat))
 (cond (decide ((0 : Int) ≤ IntKind.wrap .i64 (x2 + (1 : Int))) && decide (IntKind.wrap .i64 (x2 + (1 : Int)) < nI (List.length l8)))
 ((go k impl_parseNumber [(.str (List.getD l8 (Int.toNat (IntKind.wrap .i64 (x2 + (1 : Int)))) ByteArray.empty))]).bind fun r115 =>
 lp k impl_ParseAct [] fu 6 n (qjp n0 x1 (IntKind.wrap .i64 (x2 + (1 : Int))) x3 x4 x5 x6 z7 l8 x9 (D.toInt (nth r115 0)) x11 x12))
 (none))
 (cond (Nat.beq (Int.toNat x2) (18 : Nat))
 (cond (decide ((0 : Int) ≤ IntKind.wrap .i64 (x2 + (1 : Int))) && decide (IntKind.wrap .i64 (x2 + (1 : Int)) < nI (List.length l8)))
 ((go k impl_parseNumber [(.str (List.getD l8 (Int.toNat (IntKind.wrap .i64 (x2 + (1 : Int)))) ByteArray.empty))]).bind fun r116 =>
 lp k impl_ParseAct [] fu 6 n (qjp n0 x1 (IntKind.wrap .i64 (x2 + (1 : Int))) x3 x4 x5 x6 z7 l8 x9 (D.toInt (nth r116 0)) x11 x12))
 (none))
 (cond (Nat.beq (Int.toNat x2) (19 : Nat))
 (cond (decide ((0 : Int) ≤ IntKind.wrap .i64 (x2 + (1 : Int))) && decide (IntKind.wrap .i64 (x2 + (1 : Int)) < nI (List.length l8)))
 ((go k impl_parseNumber [(.str (List.getD l8 (Int.toNat (IntKind.wrap .i64 (x2 + (1 : Int)))) ByteArray.empty))]).bind fun r117 =>
 lp k impl_ParseAct [] fu 6 n (qjp n0 x1 (IntKind.wrap .i64 (x2 + (1 : Int))) x3 x4 x5 x6 z7 l8 x9 (D.toInt (nth r117 0)) x11 x12))
 (none))
 (cond (Nat.beq (Int.toNat x2) (20 : Nat))
 (cond (decide ((0 : Int) ≤ IntKind.wrap .i64 (x2 + (1 : Int))) && decide (IntKind.wrap .i64 (x2 + (1 : Int)) < nI (List.length l8)))
 ((go k impl_parseNumber [(.str (List.getD l8 (Int.toNat (IntKind.wrap .i64 (x2 + (1 : Int)))) ByteArray.empty))]).bind fun r118 =>
 lp k impl_ParseAct [] fu 6 n (qjp n0 x1 (IntKind.wrap .i64 (x2 + (1 : Int))) x3 x4 x5 x6 z7 l8 x9 (D.toInt (nth r118 0)) x11 x12))
 (none))
 (cond (Nat.beq (Int.toNat x2) (21 : Nat))
 (cond (decide ((0 : Int) ≤ IntKind.wrap .i64 (x2 + (1 : Int))) && decide (IntKind.wrap .i64 (x2 + (1 : Int)) < nI (List.length l8)))
 ((go k impl_parseNumber [(.str (List.getD l8 (Int.toNat (IntKind.wrap .i64 (x2 + (1 : Int)))) ByteArray.empty))]).bind fun r119 =>
 lp k impl_ParseAct [] fu 6 n (qjp n0 x1 (IntKind.wrap .i64 (x2 + (1 : Int))) x3 x4 x5 x6 z7 l8 x9 (D.toInt (nth r119 0)) x11 x12))
 (none))
 (cond (Nat.beq (Int.toNat x2) (22 : Nat))
 (cond (decide ((0 : Int) ≤ IntKind.wrap .i64 (x2 + (1 : Int))) && decide (IntKind.wrap .i64 (x2 + (1 : Int)) < nI (List.length l8)))
 ((go k impl_parseNumber [(.str (List.getD l8 (Int.toNat (IntKind.wrap .i64 (x2 + (1 : Int)))) ByteArray.empty))]).bind fun r120 =>
 lp k impl_ParseAct [] fu 6 n (qjp n0 x1 (IntKind.wrap .i64 (x2 + (1 : Int))) x3 x4 x5 x6 z7 l8 x9 (D.toInt (nth r120 0)) x11 x12))
 (none))
 (cond (Nat.beq (Int.toNat x2) (23 : Nat))
 (cond (decide ((0 : Int) ≤ IntKind.wrap .i64 (x2 + (1 : Int))) && decide (IntKind.wrap .i64 (x2 + (1 : Int)) < nI (List.length l8)))
 ((go k impl_parseNumber [(.str (List.getD l8 (Int.toNat (IntKind.wrap .i64 (x2 + (1 : Int)))) ByteArray.empty))]).bind fun r121 =>
 lp k impl_ParseAct [] fu 6 n (qjp n0 x1 (IntKind.wrap .i64 (x2 + (1 : Int))) x3 x4 x5 x6 z7 l8 x9 (D.toInt (nth r121 0)) x11 x12))
 (none))
 (cond (Nat.beq (Int.toNat x2) (24 : Nat))
 (cond (decide ((0 : Int) ≤ IntKind.wrap .i64 (x2 + (1 : Int))) && decide (IntKind.wrap .i64 (x2 + (1 : Int)) < nI (List.length l8)))
 ((go k impl_parseNumber [(.str (List.getD l8 (Int.toNat (IntKind.wrap .i64 (x2 + (1 : Int)))) ByteArray.empty))]).bind fun r122 =>
 lp k impl_ParseAct [] fu 6 n (qjp n0 x1 (IntKind.wrap .i64 (x2 + (1 : Int))) x3 x4 x5 x6 z7 l8 x9 (D.toInt (nth r122 0)) x11 x12))
 (none))
 (cond (Nat.beq (Int.toNat x2) (25 : Nat))
 (cond (decide ((0 : Int) ≤ IntKind.wrap .i64 (x2 + (1 : Int))) && decide (IntKind.wrap .i64 (x2 + (1 : Int)) < nI (List.length l8)))
 ((go k impl_parseNumber [(.str (List.getD l8 (Int.toNat (IntKind.wrap .i64 (x2 + (1 : Int)))) ByteArray.empty))]).bind fun r123 =>
 lp k impl_ParseAct [] fu 6 n (qjp n0 x1 (IntKind.wrap .i64 (x2 + (1 : Int))) x3 x4 x5 x6 z7 l8 x9 (D.toInt (nth r123 0)) x11 x12))
 (none))
 (cond (Nat.beq (Int.toNat x2) (26 : Nat))
 (cond (decide ((0 : Int) ≤ IntKind.wrap .i64 (x2 + (1 : Int))) && decide (IntKind.wrap .i64 (x2 + (1 : Int)) < nI (List.length l8)))
 ((go k impl_parseNumber [(.str (List.getD l8 (Int.toNat (IntKind.wrap .i64 (x2 + (1 : Int)))) ByteArray.empty))]).bind fun r124 =>
 lp k impl_ParseAct [] fu 6 n (qjp n0 x1 (IntKind.wrap .i64 (x2 + (1 : Int))) x3 x4 x5 x6 z7 l8 x9 (D.toInt (nth r124 0)) x11 x12))
 (none))
 (cond (Nat.beq (Int.toNat x2) (27 : Nat))
 (cond (decide ((0 : Int) ≤ IntKind.wrap .i64 (x2 + (1 : Int))) && decide (IntKind.wrap .i64 (x2 + (1 : Int)) < nI (List.length l8)))
 ((go k impl_parseNumber [(.str (List.getD l8 (Int.toNat (IntKind.wrap .i64 (x2 + (1 : Int)))) ByteArray.empty))]).bind fun r125 =>
 lp k impl_ParseAct [] fu 6 n (qjp n0 x1 (IntKind.wrap .i64 (x2 + (1 : Int))) x3 x4 x5 x6 z7 l8 x9 (D.toInt (nth r125 0)) x11 x12))
 (none))
 (cond (Nat.beq (Int.toNat x2) (28 : Nat))
 (cond (decide ((0 : Int) ≤ IntKind.wrap .i64 (x2 + (1 : Int))) && decide (IntKind.wrap .i64 (x2 + (1 : Int)) < nI (List.length l8)))
 ((go k impl_parseNumber [(.str (List.getD l8 (Int.toNat (IntKind.wrap .i64 (x2 + (1 : Int)))) ByteArray.empty))]).bind fun r126 =>
 lp k impl_ParseAct [] fu 6 n (qjp n0 x1 (IntKind.wrap .i64 (x2 + (1 : Int))) x3 x4 x5 x6 z7 l8 x9 (D.toInt (nth r126 0)) x11 x12))
 (none))
 (cond (Nat.beq (Int.toNat x2) (29 : Nat))
 (cond (decide ((0 : Int) ≤ IntKind.wrap .i64 (x2 + (1 : Int))) && decide (IntKind.wrap .i64 (x2 + (1 : Int)) < nI (List.length l8)))
 ((go k impl_parseNumber [(.str (List.getD l8 (Int.toNat (IntKind.wrap .i64 (x2 + (1 : Int)))) ByteArray.empty))]).bind fun r127 =>
 lp k impl_ParseAct [] fu 6 n (qjp n0 x1 (IntKind.wrap .i64 (x2 + (1 : Int))) x3 x4 x5 x6 z7 l8 x9 (D.toInt (nth r127 0)) x11 x12))
 (none))
 (cond (Nat.beq (Int.toNat x2) (30 : Nat))
 (cond (decide ((0 : Int) ≤ IntKind.wrap .i64 (x2 + (1 : Int))) && decide (IntKind.wrap .i64 (x2 + (1 : Int)) < nI (List.length l8)))
 ((go k impl_parseNumber [(.str (List.getD l8 (Int.toNat (IntKind.wrap .i64 (x2 + (1 : Int)))) ByteArray.empty))]).bind fun r128 =>
 lp k impl_ParseAct [] fu 6 n (qjp n0 x1 (IntKind.wrap .i64 (x2 + (1 : Int))) x3 x4 x5 x6 z7 l8 x9 (D.toInt (nth r128 0)) x11 x12))
 (none))
 (cond (Nat.beq (Int.toNat x2) (31 : Nat))
 (cond (decide ((0 : Int) ≤ IntKind.wrap .i64 (x2 + (1 : Int))) && decide (IntKind.wrap .i64 (x2 + (1 : Int)) < nI (List.length l8)))
 ((go k impl_parseNumber [(.str (List.getD l8 (Int.toNat (IntKind.wrap .i64 (x2 + (1 : Int)))) ByteArray.empty))]).bind fun r129 =>
 lp k impl_ParseAct [] fu 6 n (qjp n0 x1 (IntKind.wrap .i64 (x2 + (1 : Int))) x3 x4 x5 x6 z7 l8 x9 (D.toInt (nth r129 0)) x11 x12))
 (none))
 (cond (Nat.beq (Int.toNat x2) (32 : Nat))
 (cond (decide ((0 : Int) ≤ IntKind.wrap .i64 (x2 + (1 : Int))) && decide (IntKind.wrap .i64 (x2 + (1 : Int)) < nI (List.length l8)))
 ((go k impl_parseNumber [(.str (List.getD l8 (Int.toNat (IntKind.wrap .i64 (x2 + (1 : Int)))) ByteArray.empty))]).bind fun r130 =>
 lp k impl_ParseAct [] fu 6 n (qjp n0 x1 (IntKind.wrap .i64 (x2 + (1 : Int))) x3 x4 x5 x6 z7 l8 x9 (D.toInt (nth r130 0)) x11 x12))
 (none))
 (cond (Nat.beq (Int.toNat x2) (33 : Nat))
 (cond (decide ((0 : Int) ≤ IntKind.wrap .i64 (x2 + (1 : Int))) && decide (IntKind.wrap .i64 (x2 + (1 : Int)) < nI (List.length l8)))
 ((go k impl_parseNumber [(.str (List.getD l8 (Int.toNat (IntKind.wrap .i64 (x2 + (1 : Int)))) ByteArray.empty))]).bind fun r131 =>
 lp k impl_ParseAct [] fu 6 n (qjp n0 x1 (IntKind.wrap .i64 (x2 + (1 : Int))) x3 x4 x5 x6 z7 l8 x9 (D.toInt (nth r131 0)) x11 x12))
 (none))
 (cond (Nat.beq (Int.toNat x2) (34 : Nat))
 (cond (decide ((0 : Int) ≤ IntKind.wrap .i64 (x2 + (1 : Int))) && decide (IntKind.wrap .i64 (x2 + (1 : Int)) < nI (List.length l8)))
 ((go k impl_parseNumber [(.str (List.getD l8 (Int.toNat (IntKind.wrap .i64 (x2 + (1 : Int)))) ByteArray.empty))]).bind fun r132 =>
 lp k impl_ParseAct [] fu 6 n (qjp n0 x1 (IntKind.wrap .i64 (x2 + (1 : Int))) x3 x4 x5 x6 z7 l8 x9 (D.toInt (nth r132 0)) x11 x12))
 (none))
 (cond (Nat.beq (Int.toNat x2) (35 : Nat))
 (cond (decide ((0 : Int) ≤ IntKind.wrap .i64 (x2 + (1 : Int))) && decide (IntKind.wrap .i64 (x2 + (1 : Int)) < nI (List.length l8)))
 ((go k impl_parseNumber [(.str (List.getD l8 (Int.toNat (IntKind.wrap .i64 (x2 + (1 : Int)))) ByteArray.empty))]).bind fun r133 =>
 lp k impl_ParseAct [] fu 6 n (qjp n0 x1 (IntKind.wrap .i64 (x2 + (1 : Int))) x3 x4 x5 x6 z7 l8 x9 (D.toInt (nth r133 0)) x11 x12))
 (none))
 (cond (Nat.beq (Int.toNat x2) (36 : Nat))
 (cond (decide ((0 : Int) ≤ IntKind.wrap .i64 (x2 + (1 : Int))) && decide (IntKind.wrap .i64 (x2 + (1 : Int)) < nI (List.length l8)))
 ((go k impl_parseNumber [(.str (List.getD l8 (Int.toNat (IntKind.wrap .i64 (x2 + (1 : Int)))) ByteArray.empty))]).bind fun r134 =>
 lp k impl_ParseAct [] fu 6 n (qjp n0 x1 (IntKind.wrap .i64 (x2 + (1 : Int))) x3 x4 x5 x6 z7 l8 x9 (D.toInt (nth r134 0)) x11 x12))
 (none))
 (cond (Nat.beq (Int.toNat x2) (37 : Nat))
 (cond (decide ((0 : Int) ≤ IntKind.wrap .i64 (x2 + (1 : Int))) && decide (IntKind.wrap .i64 (x2 + (1 : Int)) < nI (List.length l8)))
 ((go k impl_parseNumber [(.str (List.getD l8 (Int.toNat (IntKind.wrap .i64 (x2 + (1 : Int)))) ByteArray.empty))]).bind fun r135 =>
 lp k impl_ParseAct [] fu 6 n (qjp n0 x1 (IntKind.wrap .i64 (x2 + (1 : Int))) x3 x4 x5 x6 z7 l8 x9 (D.toInt (nth r135 0)) x11 x12))
 (none))
 (cond (Nat.beq (Int.toNat x2) (38 : Nat))
 (cond (decide ((0 : Int) ≤ IntKind.wrap .i64 (x2 + (1 : Int))) && decide (IntKind.wrap .i64 (x2 + (1 : Int)) < nI (List.length l8)))
 ((go k impl_parseNumber [(.str (List.getD l8 (Int.toNat (IntKind.wrap .i64 (x2 + (1 : Int)))) ByteArray.empty))]).bind fun r136 =>
 lp k impl_ParseAct [] fu 6 n (qjp n0 x1 (IntKind.wrap .i64 (x2 + (1 : Int))) x3 x4 x5 x6 z7 l8 x9 (D.toInt (nth r136 0)) x11 x12))
 (none))
 (cond (Nat.beq (Int.toNat x2) (39 : Nat))
 (cond (decide ((0 : Int) ≤ IntKind.wrap .i64 (x2 + (1 : Int))) && decide (IntKind.wrap .i64 (x2 + (1 : Int)) < nI (List.length l8)))
 ((go k impl_parseNumber [(.str (List.getD l8 (Int.toNat (IntKind.wrap .i64 (x2 + (1 : Int)))) ByteArray.empty))]).bind fun r137 =>
 lp k impl_ParseAct [] fu 6 n (qjp n0 x1 (IntKind.wrap .i64 (x2 + (1 : Int))) x3 x4 x5 x6 z7 l8 x9 (D.toInt (nth r137 0)) x11 x12))
 (none))
 (cond (Nat.beq (Int.toNat x2) (40 : Nat))
 (cond (decide ((0 : Int) ≤ IntKind.wrap .i64 (x2 + (1 : Int))) && decide (IntKind.wrap .i64 (x2 + (1 : Int)) < nI (List.length l8)))
 ((go k impl_parseNumber [(.str (List.getD l8 (Int.toNat (IntKind.wrap .i64 (x2 + (1 : Int)))) ByteArray.empty))]).bind fun r138 =>
 lp k impl_ParseAct [] fu 6 n (qjp n0 x1 (IntKind.wrap .i64 (x2 + (1 : Int))) x3 x4 x5 x6 z7 l8 x9 (D.toInt (nth r138 0)) x11 x12))
 (none))
 (cond (Nat.beq (Int.toNat x2) (41 : Nat))
 (cond (decide ((0 : Int) ≤ IntKind.wrap .i64 (x2 + (1 : Int))) && decide (IntKind.wrap .i64 (x2 + (1 : Int)) < nI (List.length l8)))
 ((go k impl_parseNumber [(.str (List.getD l8 (Int.toNat (IntKind.wrap .i64 (x2 + (1 : Int)))) ByteArray.empty))]).bind fun r139 =>
 lp k impl_ParseAct [] fu 6 n (qjp n0 x1 (IntKind.wrap .i64 (x2 + (1 : Int))) x3 x4 x5 x6 z7 l8 x9 (D.toInt (nth r139 0)) x11 x12))
 (none))
 (cond (Nat.beq (Int.toNat x2) (42 : Nat))
 (cond (decide ((0 : Int) ≤ IntKind.wrap .i64 (x2 + (1 : Int))) && decide (IntKind.wrap .i64 (x2 + (1 : Int)) < nI (List.length l8)))
 ((go k impl_parseNumber [(.str (List.getD l8 (Int.toNat (IntKind.wrap .i64 (x2 + (1 : Int)))) ByteArray.empty))]).bind fun r140 =>
 lp k impl_ParseAct [] fu 6 n (qjp n0 x1 (IntKind.wrap .i64 (x2 + (1 : Int))) x3 x4 x5 x6 z7 l8 x9 (D.toInt (nth r140 0)) x11 x12))
 (none))
 (cond (Nat.beq (Int.toNat x2) (43 : Nat))
 (cond (decide ((0 : Int) ≤ IntKind.wrap .i64 (x2 + (1 : Int))) && decide (IntKind.wrap .i64 (x2 + (1 : Int)) < nI (List.length l8)))
 ((go k impl_parseNumber [(.str (List.getD l8 (Int.toNat (IntKind.wrap .i64 (x2 + (1 : Int)))) ByteArray.empty))]).bind fun r141 =>
 lp k impl_ParseAct [] fu 6 n (qjp n0 x1 (IntKind.wrap .i64 (x2 + (1 : Int))) x3 x4 x5 x6 z7 l8 x9 (D.toInt (nth r141 0)) x11 x12))
 (none))
 (cond (Nat.beq (Int.toNat x2) (44 : Nat))
 (cond (decide ((0 : Int) ≤ IntKind.wrap .i64 (x2 + (1 : Int))) && decide (IntKind.wrap .i64 (x2 + (1 : Int)) < nI (List.length l8)))
 ((go k impl_parseNumber [(.str (List.getD l8 (Int.toNat (IntKind.wrap .i64 (x2 + (1 : Int)))) ByteArray.empty))]).bind fun r142 =>
 lp k impl_ParseAct [] fu 6 n (qjp n0 x1 (IntKind.wrap .i64 (x2 + (1 : Int))) x3 x4 x5 x6 z7 l8 x9 (D.toInt (nth r142 0)) x11 x12))
 (none))
 (cond (Nat.beq (Int.toNat x2) (45 : Nat))
 (cond (decide ((0 : Int) ≤ IntKind.wrap .i64 (x2 + (1 : Int))) && decide (IntKind.wrap .i64 (x2 + (1 : Int)) < nI (List.length l8)))
 ((go k impl_parseNumber [(.str (List.getD l8 (Int.toNat (IntKind.wrap .i64 (x2 + (1 : Int)))) ByteArray.empty))]).bind fun r143 =>
 lp k impl_ParseAct [] fu 6 n (qjp n0 x1 (IntKind.wrap .i64 (x2 + (1 : Int))) x3 x4 x5 x6 z7 l8 x9 (D.toInt (nth r143 0)) x11 x12))
 (none))
 (cond (Nat.beq (Int.toNat x2) (46 : Nat))
 (cond (decide ((0 : Int) ≤ IntKind.wrap .i64 (x2 + (1 : Int))) && decide (IntKind.wrap .i64 (x2 + (1 : Int)) < nI (List.length l8)))
 ((go k impl_parseNumber [(.str (List.getD l8 (Int.toNat (IntKind.wrap .i64 (x2 + (1 : Int)))) ByteArray.empty))]).bind fun r144 =>
 lp k impl_ParseAct [] fu 6 n (qjp n0 x1 (IntKind.wrap .i64 (x2 + (1 : Int))) x3 x4 x5 x6 z7 l8 x9 (D.toInt (nth r144 0)) x11 x12))
 (none))
 (cond (Nat.beq (Int.toNat x2) (47 : Nat))
 (cond (decide ((0 : Int) ≤ IntKind.wrap .i64 (x2 + (1 : Int))) && decide (IntKind.wrap .i64 (x2 + (1 : Int)) < nI (List.length l8)))
 ((go k impl_parseNumber [(.str (List.getD l8 (Int.toNat (IntKind.wrap .i64 (x2 + (1 : Int)))) ByteArray.empty))]).bind fun r145 =>
 lp k impl_ParseAct [] fu 6 n (qjp n0 x1 (IntKind.wrap .i64 (x2 + (1 : Int))) x3 x4 x5 x6 z7 l8 x9 (D.toInt (nth r145 0)) x11 x12))
 (none))
 (cond (decide ((0 : Int) ≤ IntKind.wrap .i64 (x2 + (1 : Int))) && decide (IntKind.wrap .i64 (x2 + (1 : Int)) < nI (List.length l8)))
 ((go k impl_parseNumber [(.str (List.getD l8 (Int.toNat (IntKind.wrap .i64 (x2 + (1 : Int)))) ByteArray.empty))]).bind fun r146 =>
 cond (Nat.beq (Int.toNat x2) 0)
 (lp k impl_ParseAct [] fu 6 n (qjp n0 x1 (IntKind.wrap .i64 (x2 + (1 : Int))) x3 x4 x5 x6 z7 l8 x9 (D.toInt (nth r146 0)) x11 x12))
 (cond (Nat.beq (Int.toNat x2) 1)
 (lp k impl_ParseAct [] fu 6 n (qjp n0 x1 (IntKind.wrap .i64 (x2 + (1 : Int))) x3 x4 x5 x6 z7 l8 x9 (D.toInt (nth r146 0)) x11 x12))
 (cond (Nat.beq (Int.toNat x2) 2)
 (lp k impl_ParseAct [] fu 6 n (qjp n0 x1 (IntKind.wrap .i64 (x2 + (1 : Int))) x3 x4 x5 x6 z7 l8 x9 (D.toInt (nth r146 0)) x11 x12))
 (cond (Nat.beq (Int.toNat x2) 3)
 (lp k impl_ParseAct [] fu 6 n (qjp n0 x1 (IntKind.wrap .i64 (x2 + (1 : Int))) x3 x4 x5 x6 z7 l8 x9 (D.toInt (nth r146 0)) x11 x12))
 (cond (Nat.beq (Int.toNat x2) 4)
 (lp k impl_ParseAct [] fu 6 n (qjp n0 x1 (IntKind.wrap .i64 (x2 + (1 : Int))) x3 x4 x5 x6 z7 l8 x9 (D.toInt (nth r146 0)) x11 x12))
 (cond (Nat.beq (Int.toNat x2) 5)
 (lp k impl_ParseAct [] fu 6 n (qjp n0 x1 (IntKind.wrap .i64 (x2 + (1 : Int))) x3 x4 x5 x6 z7 l8 x9 (D.toInt (nth r146 0)) x11 x12))
 (cond (Nat.beq (Int.toNat x2) 6)
 (lp k impl_ParseAct [] fu 6 n (qjp n0 x1 (IntKind.wrap .i64 (x2 + (1 : Int))) x3 x4 x5 x6 z7 l8 x9 (D.toInt (nth r146 0)) x11 x12))
 (cond (Nat.beq (Int.toNat x2) 7)
 (lp k impl_ParseAct [] fu 6 n (qjp n0 x1 (IntKind.wrap .i64 (x2 + (1 : Int))) x3 x4 x5 x6 z7 l8 x9 (D.toInt (nth r146 0)) x11 x12))
 (cond (Nat.beq (Int.toNat x2) 8)
 (lp k impl_ParseAct [] fu 6 n (qjp n0 x1 (IntKind.wrap .i64 (x2 + (1 : Int))) x3 x4 x5 x6 z7 l8 x9 (D.toInt (nth r146 0)) x11 x12))
 (cond (Nat.beq (Int.toNat x2) 9)
 (lp k impl_ParseAct [] fu 6 n (qjp n0 x1 (IntKind.wrap .i64 (x2 + (1 : Int))) x3 x4 x5 x6 z7 l8 x9 (D.toInt (nth r146 0)) x11 x12))
 (cond (Nat.beq (Int.toNat x2) 10)
 (lp k impl_ParseAct [] fu 6 n (qjp n0 x1 (IntKind.wrap .i64 (x2 + (1 : Int))) x3 x4 x5 x6 z7 l8 x9 (D.toInt (nth r146 0)) x11 x12))
 (cond (Nat.beq (Int.toNat x2) 11)
 (lp k impl_ParseAct [] fu 6 n (qjp n0 x1 (IntKind.wrap .i64 (x2 + (1 : Int))) x3 x4 x5 x6 z7 l8 x9 (D.toInt (nth r146 0)) x11 x12))
 (cond (Nat.beq (Int.toNat x2) (12 : Nat))
 (lp k impl_ParseAct [] fu 6 n (qjp n0 x1 (IntKind.wrap .i64 (x2 + (1 : Int))) x3 x4 x5 x6 z7 l8 x9 (D.toInt (nth r146 0)) x11 x12))
 (cond (Nat.beq (Int.toNat x2) (13 : Nat))
 (lp k impl_ParseAct [] fu 6 n (qjp n0 x1 (IntKind.wrap .i64 (x2 + (1 : Int))) x3 x4 x5 x6 z7 l8 x9 (D.toInt (nth r146 0)) x11 x12))
 (cond (Nat.beq (Int.toNat x2) (14 : Nat))
 (lp k impl_ParseAct [] fu 6 n (qjp n0 x1 (IntKind.wrap .i64 (x2 + (1 : Int))) x3 x4 x5 x6 z7 l8 x9 (D.toInt (nth r146 0)) x11 x12))
 (cond (Nat.beq (Int.toNat x2) (15 : Nat))
 (lp k impl_ParseAct [] fu 6 n (qjp n0 x1 (IntKind.wrap .i64 (x2 + (1 : Int))) x3 x4 x5 x6 z7 l8 x9 (D.toInt (nth r146 0)) x11 x12))
 (cond (Nat.beq (Int.toNat x2) (16 : Nat))
 (lp k impl_ParseAct [] fu 6 n (qjp n0 x1 (IntKind.wrap .i64 (x2 + (1 : Int))) x3 x4 x5 x6 z7 l8 x9 (D.toInt (nth r146 0)) x11 x12))
 (cond (Nat.beq (Int.toNat x2) (17 : Nat))
 (lp k impl_ParseAct [] fu 6 n (qjp n0 x1 (IntKind.wrap .i64 (x2 + (1 : Int))) x3 x4 x5 x6 z7 l8 x9 (D.toInt (nth r146 0)) x11 x12))
 (cond (Nat.beq (Int.toNat x2) (18 : Nat))
 (lp k impl_ParseAct [] fu 6 n (qjp n0 x1 (IntKind.wrap .i64 (x2 + (1 : Int))) x3 x4 x5 x6 z7 l8 x9 (D.toInt (nth r146 0)) x11 x12))
 (cond (Nat.beq (Int.toNat x2) (19 : Nat))
 (lp k impl_ParseAct [] fu 6 n (qjp n0 x1 (IntKind.wrap .i64 (x2 + (1 : Int))) x3 x4 x5 x6 z7 l8 x9 (D.toInt (nth r146 0)) x11 x12))
 (cond (Nat.beq (Int.toNat x2) (20 : Nat))
 (lp k impl_ParseAct [] fu 6 n (qjp n0 x1 (IntKind.wrap .i64 (x2 + (1 : Int))) x3 x4 x5 x6 z7 l8 x9 (D.toInt (nth r146 0)) x11 x12))
 (cond (Nat.beq (Int.toNat x2) (21 : Nat))
 (lp k impl_ParseAct [] fu 6 n (qjp n0 x1 (IntKind.wrap .i64 (x2 + (1 : Int))) x3 x4 x5 x6 z7 l8 x9 (D.toInt (nth r146 0)) x11 x12))
 (cond (Nat.beq (Int.toNat x2) (22 : Nat))
 (lp k impl_ParseAct [] fu 6 n (qjp n0 x1 (IntKind.wrap .i64 (x2 + (1 : Int))) x3 x4 x5 x6 z7 l8 x9 (D.toInt (nth r146 0)) x11 x12))
 (cond (Nat.beq (Int.toNat x2) (23 : Nat))
 (lp k impl_ParseAct [] fu 6 n (qjp n0 x1 (IntKind.wrap .i64 (x2 + (1 : Int))) x3 x4 x5 x6 z7 l8 x9 (D.toInt (nth r146 0)) x11 x12))
 (cond (Nat.beq (Int.toNat x2) (24 : Nat))
 (lp k impl_ParseAct [] fu 6 n (qjp n0 x1 (IntKind.wrap .i64 (x2 + (1 : Int))) x3 x4 x5 x6 z7 l8 x9 (D.toInt (nth r146 0)) x11 x12))
 (cond (Nat.beq (Int.toNat x2) (25 : Nat))
 (lp k impl_ParseAct [] fu 6 n (qjp n0 x1 (IntKind.wrap .i64 (x2 + (1 : Int))) x3 x4 x5 x6 z7 l8 x9 (D.toInt (nth r146 0)) x11 x12))
 (cond (Nat.beq (Int.toNat x2) (26 : Nat))
 (lp k impl_ParseAct [] fu 6 n (qjp n0 x1 (IntKind.wrap .i64 (x2 + (1 : Int))) x3 x4 x5 x6 z7 l8 x9 (D.toInt (nth r146 0)) x11 x12))
 (cond (Nat.beq (Int.toNat x2) (27 : Nat))
 (lp k impl_ParseAct [] fu 6 n (qjp n0 x1 (IntKind.wrap .i64 (x2 + (1 : Int))) x3 x4 x5 x6 z7 l8 x9 (D.toInt (nth r146 0)) x11 x12))
 (cond (Nat.beq (Int.toNat x2) (28 : Nat))
 (lp k impl_ParseAct [] fu 6 n (qjp n0 x1 (IntKind.wrap .i64 (x2 + (1 : Int))) x3 x4 x5 x6 z7 l8 x9 (D.toInt (nth r146 0)) x11 x12))
 (cond (Nat.beq (Int.toNat x2) (29 : Nat))
 (lp k impl_ParseAct [] fu 6 n (qjp n0 x1 (IntKind.wrap .i64 (x2 + (1 : Int))) x3 x4 x5 x6 z7 l8 x9 (D.toInt (nth r146 0)) x11 x12))
 (cond (Nat.beq (Int.toNat x2) (30 : Nat))
 (lp k impl_ParseAct [] fu 6 n (qjp n0 x1 (IntKind.wrap .i64 (x2 + (1 : Int))) x3 x4 x5 x6 z7 l8 x9 (D.toInt (nth r146 0)) x11 x12))
 (cond (Nat.beq (Int.toNat x2) (31 : Nat))
 (lp k impl_ParseAct [] fu 6 n (qjp n0 x1 (IntKind.wrap .i64 (x2 + (1 : Int))) x3 x4 x5 x6 z7 l8 x9 (D.toInt (nth r146 0)) x11 x12))
 (cond (Nat.beq (Int.toNat x2) (32 : Nat))
 (lp k impl_ParseAct [] fu 6 n (qjp n0 x1 (IntKind.wrap .i64 (x2 + (1 : Int))) x3 x4 x5 x6 z7 l8 x9 (D.toInt (nth r146 0)) x11 x12))
 (cond (Nat.beq (Int.toNat x2) (33 : Nat))
 (lp k impl_ParseAct [] fu 6 n (qjp n0 x1 (IntKind.wrap .i64 (x2 + (1 : Int))) x3 x4 x5 x6 z7 l8 x9 (D.toInt (nth r146 0)) x11 x12))
 (cond (Nat.beq (Int.toNat x2) (34 : Nat))
 (lp k impl_ParseAct [] fu 6 n (qjp n0 x1 (IntKind.wrap .i64 (x2 + (1 : Int))) x3 x4 x5 x6 z7 l8 x9 (D.toInt (nth r146 0)) x11 x12))
 (cond (Nat.beq (Int.toNat x2) (35 : Nat))
 (lp k impl_ParseAct [] fu 6 n (qjp n0 x1 (IntKind.wrap .i64 (x2 + (1 : Int))) x3 x4 x5 x6 z7 l8 x9 (D.toInt (nth r146 0)) x11 x12))
 (cond (Nat.beq (Int.toNat x2) (36 : Nat))
 (lp k impl_ParseAct [] fu 6 n (qjp n0 x1 (IntKind.wrap .i64 (x2 + (1 : Int))) x3 x4 x5 x6 z7 l8 x9 (D.toInt (nth r146 0)) x11 x12))
 (cond (Nat.beq (Int.toNat x2) (37 : Nat))
 (lp k impl_ParseAct [] fu 6 n (qjp n0 x1 (IntKind.wrap .i64 (x2 + (1 : Int))) x3 x4 x5 x6 z7 l8 x9 (D.toInt (nth r146 0)) x11 x12))
 (cond (Nat.beq (Int.toNat x2) (38 : Nat))
 (lp k impl_ParseAct [] fu 6 n (qjp n0 x1 (IntKind.wrap .i64 (x2 + (1 : Int))) x3 x4 x5 x6 z7 l8 x9 (D.toInt (nth r146 0)) x11 x12))
 (cond (Nat.beq (Int.toNat x2) (39 : Nat))
 (lp k impl_ParseAct [] fu 6 n (qjp n0 x1 (IntKind.wrap .i64 (x2 + (1 : Int))) x3 x4 x5 x6 z7 l8 x9 (D.toInt (nth r146 0)) x11 x12))
 (cond (Nat.beq (Int.toNat x2) (40 : Nat))
 (lp k impl_ParseAct [] fu 6 n (qjp n0 x1 (IntKind.wrap .i64 (x2 + (1 : Int))) x3 x4 x5 x6 z7 l8 x9 (D.toInt (nth r146 0)) x11 x12))
 (cond (Nat.beq (Int.toNat x2) (41 : Nat))
 (lp k impl_ParseAct [] fu 6 n (qjp n0 x1 (IntKind.wrap .i64 (x2 + (1 : Int))) x3 x4 x5 x6 z7 l8 x9 (D.toInt (nth r146 0)) x11 x12))
 (cond (Nat.beq (Int.toNat x2) (42 : Nat))
 (lp k impl_ParseAct [] fu 6 n (qjp n0 x1 (IntKind.wrap .i64 (x2 + (1 : Int))) x3 x4 x5 x6 z7 l8 x9 (D.toInt (nth r146 0)) x11 x12))
 (cond (Nat.beq (Int.toNat x2) (43 : Nat))
 (lp k impl_ParseAct [] fu 6 n (qjp n0 x1 (IntKind.wrap .i64 (x2 + (1 : Int))) x3 x4 x5 x6 z7 l8 x9 (D.toInt (nth r146 0)) x11 x12))
 (cond (Nat.beq (Int.toNat x2) (44 : Nat))
 (lp k impl_ParseAct [] fu 6 n (qjp n0 x1 (IntKind.wrap .i64 (x2 + (1 : Int))) x3 x4 x5 x6 z7 l8 x9 (D.toInt (nth r146 0)) x11 x12))
 (cond (Nat.beq (Int.toNat x2) (45 : Nat))
 (lp k impl_ParseAct [] fu 6 n (qjp n0 x1 (IntKind.wrap .i64 (x2 + (1 : Int))) x3 x4 x5 x6 z7 l8 x9 (D.toInt (nth r146 0)) x11 x12))
 (cond (Nat.beq (Int.toNat x2) (46 : Nat))
 (lp k impl_ParseAct [] fu 6 n (qjp n0 x1 (IntKind.wrap .i64 (x2 + (1 : Int))) x3 x4 x5 x6 z7 l8 x9 (D.toInt (nth r146 0)) x11 x12))
 (cond (Nat.beq (Int.toNat x2) (47 : Nat))
 (lp k impl_ParseAct [] fu 6 n (qjp n0 x1 (IntKind.wrap .i64 (x2 + (1 : Int))) x3 x4 x5 x6 z7 l8 x9 (D.toInt (nth r146 0)) x11 x12))
 (lp k impl_ParseAct [] fu 6 n (qjp n0 x1 (IntKind.wrap .i64 (x2 + (1 : Int))) x3 x4 x5 x6 z7 l8 x9 (D.toInt (nth r146 0)) x11 x12))))))))))))))))))))))))))))))))))))))))))))))))))
 (none))))))))))))))))))))))))))))))))))))))))))))))))))
 (none))))
 (none))
 ((go k impl_FormatAct [(.agg [(.int .i64 (x9)), (.int .i64 (x10)), (.int .i64 (x11)), (.int .i64 (x12))])]).bind fun r147 =>
 cond (!bit (nth r147 1))
 (some [(.agg [(.int .i64 (0 : Int)), (.int .i64 (0 : Int)), (.int .i64 (0 : Int)), (.int .i64 (0 : Int))]), (.bool (false))])
 ((go k strings_Join [(.arr false (z7) (.strs (l8))), (.str ({ data := #[(32 : UInt8)] }))]).bind fun r148 =>
 cond (!decide (D.toStr (nth r147 0) = D.toStr (nth r148 0)))
 (some [(.agg [(.int .i64 (0 : Int)), (.int .i64 (0 : Int)), (.int .i64 (0 : Int)), (.int .i64 (0 : Int))]), (.bool (false))])
 (some [(.agg [(.int .i64 (x9)), (.int .i64 (x10)), (.int .i64 (x11)), (.int .i64 (x12))]), (.bool (true))]))) := by kernel_rfl
theorem qe8 (k : Nat) (a b c : Int) : go (k + 1) spec_l01In [(.int .i64 (a)), (.int .i64 (b)), (.int .i64 (c))] =
 cond (decide (b ≤ a))
 (some [(.bool (decide (a ≤ c)))])
 (some [(.bool (false))]) := by kernel_rfl
end Go.Proofs.YtjfjniebmdafeaaDoor
end
section
namespace Go.Proofs.YtjfjniebmdafeaaDoor
open Go.Ev
set_option maxRecDepth 20000
theorem qd8 (k : Nat) (a0 a1 a2 a3 : Int) : go (k + 1) impl_FormatAct [(.agg [(.int .i64 (a0)), (.int .i64 (a1)), (.int .i64 (a2)), (.int .i64 (a3))])] =
 (go k impl_ActOk [(.agg [(.int .i64 (a0)), (.int .i64 (a1)), (.int .i64 (a2)), (.int .i64 (a3))])]).bind fun r0 =>
 cond (!bit (nth r0 0))
 (some [(.str ({ data := #[] })), (.bool (false))])
 ((go k impl_isSingle [(.int .i64 (a0))]).bind fun r1 =>
 cond (bit (nth r1 0))
 ((go k impl_actNames []).bind fun r2 =>
 cond (decide ((0 : Int) ≤ a0) && decide (a0 < nI (List.length (D.strs (nth r2 0)))))
 ((go k impl_spaced [(.str (List.getD (D.strs (nth r2 0)) (Int.toNat a0) ByteArray.empty)), (.arr false (false) (.ints .i64 ([a1])))]).bind fun r3 =>
 some [(.str (D.toStr (nth r3 0))), (.bool (true))])
 (none))
 ((go k impl_actNames []).bind fun r4 =>
 cond (decide ((0 : Int) ≤ a0) && decide (a0 < nI (List.length (D.strs (nth r4 0)))))
 ((go k impl_spaced [(.str (List.getD (D.strs (nth r4 0)) (Int.toNat a0) ByteArray.empty)), (.arr false (false) (.ints .i64 ([a1, a2, a3])))]).bind fun r5 =>
 some [(.str (D.toStr (nth r5 0))), (.bool (true))])
 (none))) := by kernel_rfl
theorem qem (k : Nat) (a : Int) : go (k + 1) impl_isSingle [(.int .i64 (a))] =
 cond (!decide (a = (4 : Int)))
 (cond (!decide (a = (6 : Int)))
 (some [(.bool (!decide (a = (7 : Int))))])
 (some [(.bool (false))]))
 (some [(.bool (false))]) := by kernel_rfl
theorem qeh (k : Nat) : go (k + 1) impl_actNames [] =
 some [(.arr true (false) (.strs ([{ data := #[] }, { data := #[(114 : UInt8), (117 : UInt8), (110 : UInt8)] }, { data := #[(114 : UInt8), (97 : UInt8), (105 : UInt8), (110 : UInt8)] }, { data := #[(108 : UInt8), (111 : UInt8), (115 : UInt8), (115 : UInt8)] }, { data := #[(102 : UInt8), (108 : UInt8), (111 : UInt8), (119 : UInt8)] }, { data := #[(100 : UInt8), (101 : UInt8), (99 : UInt8), (97 : UInt8), (121 : UInt8)] }, { data := #[(109 : UInt8), (101 : UInt8), (115 : UInt8), (104 : UInt8)] }, { data := #[(100 : UInt8), (114 : UInt8), (111 : UInt8), (112 : UInt8)] }])))] := by kernel_rfl
def qjq (x0 : ByteArray) (x1 x2 : Int) (z3 : Bool) (l4 : List (Int × Int × Int × Int)) : St := ⟨fill 31 [(4, (.str (x0))), (12, (.sl 0 none)), (13, (.int .i64 (x1))), (14, (.int .i64 (x2)))], [], [(.arr false (z3) (.r4 (l4)))]⟩
theorem qec (k : Nat) (az : Bool) (a : List (Int × Int × Int × Int)) : go (k + 1) impl_ScriptText [(.arr false (az) (.r4 (a)))] =
 cond (decide ((30 : Int) < nI (List.length a)))
 (some [(.str ({ data := #[] })), (.bool (false))])
 (lp k impl_ScriptText [] [] 5 k (qjq ({ data := #[] }) (nI (List.length a)) (0 : Int) az a)) := by kernel_rfl
theorem qg7 (k n : Nat) (fu : List (Nat × Nat)) (x0 : ByteArray) (x1 x2 : Int) (z3 : Bool) (l4 : List (Int × Int × Int × Int)) : lp k impl_ScriptText [] fu 5 (n + 1) (qjq x0 x1 x2 z3 l4) =
 cond (decide (x2 < x1))
 (cond (decide ((0 : Int) ≤ x2) && decide (x2 < nI (List.length l4)))
 ((go k impl_FormatAct [(.agg [(.int .i64 (Prod.fst (List.getD l4 (Int.toNat x2) zz4))), (.int .i64 (Prod.fst (Prod.snd (List.getD l4 (Int.toNat x2) zz4)))), (.int .i64 (Prod.fst (Prod.snd (Prod.snd (List.getD l4 (Int.toNat x2) zz4))))), (.int .i64 (Prod.snd (Prod.snd (Prod.snd (List.getD l4 (Int.toNat x2) zz4)))))])]).bind fun r0 =>
 cond (!bit (nth r0 1))
 (some [(.str ({ data := #[] })), (.bool (false))])
 (cond (decide (ByteArray.size (D.toStr (nth r0 0)) + ByteArray.size { data := #[(10 : UInt8)] } ≤ (4611686018427387904 : Nat)))
 (cond (decide (ByteArray.size x0 + ByteArray.size (D.toStr (nth r0 0) ++ { data := #[(10 : UInt8)] }) ≤ (4611686018427387904 : Nat)))
 (lp k impl_ScriptText [] fu 5 n (qjq (x0 ++ (D.toStr (nth r0 0) ++ { data := #[(10 : UInt8)] })) x1 (IntKind.wrap .i64 (x2 + (1 : Int))) z3 l4))
 (none))
 (none)))
 (none))
 (some [(.str (x0)), (.bool (true))]) := by kernel_rfl
end Go.Proofs.YtjfjniebmdafeaaDoor
end
section
namespace Go.Proofs
open Go.Shelf
def Tryd.lays166_ren : Go.Shelf.Ren := ⟨fun | 166 => 74 | 240 => 108 | 276 => 133 | n => n, fun | 0 => 0 | 3 => 3 | 4 => 4 | 5 => 5 | 9 => 9 | 20 => 20 | 37 => 77 | 70 => 116 | 72 => 118 | 75 => 120 | 80 => 123 | 164 => 167 | n => n, fun | n => n⟩
theorem Tryd.lays166 : Go.Proofs.Lays.n166 Tryd.prog Tryd.lays166_ren := {
  mixed := by kernel_rfl
  f166 := Tryd.func74.trans (congrArg some (by kernel_rfl))
  f240 := Tryd.func108.trans (congrArg some (by kernel_rfl))
  f276 := Tryd.func133.trans (congrArg some (by kernel_rfl))
  t0 := Tryd.underlying0
  a0 := Tryd.isAgg0
  z0 := Tryd.sizeOf0
  v0 := Tryd.zeroValue0
  t3 := Tryd.underlying3
  a3 := Tryd.isAgg3
  z3 := Tryd.sizeOf3
  v3 := Tryd.zeroValue3
  t4 := Tryd.underlying4
  a4 := Tryd.isAgg4
  z4 := Tryd.sizeOf4
  v4 := Tryd.zeroValue4
  t9 := Tryd.underlying9
  a9 := Tryd.isAgg9
  z9 := Tryd.sizeOf9
  v9 := Tryd.zeroValue9
  t20 := Tryd.underlying20
  a20 := Tryd.isAgg20
  z20 := Tryd.sizeOf20
  v20 := Tryd.zeroValue20
  t37 := Tryd.underlying77
  a37 := Tryd.isAgg77
  z37 := Tryd.sizeOf77
  v37 := Tryd.zeroValue77
  t70 := Tryd.underlying116
  a70 := Tryd.isAgg116
  z70 := Tryd.sizeOf116
  v70 := Tryd.zeroValue116
  t72 := Tryd.underlying118
  a72 := Tryd.isAgg118
  z72 := Tryd.sizeOf118
  v72 := Tryd.zeroValue118
  t75 := Tryd.underlying120
  a75 := Tryd.isAgg120
  z75 := Tryd.sizeOf120
  v75 := Tryd.zeroValue120
  t164 := Tryd.underlying167
  a164 := Tryd.isAgg167
  z164 := Tryd.sizeOf167
  v164 := Tryd.zeroValue167 }
theorem Tryd.Builder_Extra_166 : Builder.Extra Tryd.prog Tryd.lays166_ren := {
  sizeBuilder := by kernel_rfl
  liesBuilder := by kernel_rfl
  t5 := Tryd.underlying5
  a5 := Tryd.isAgg5
  z5 := Tryd.sizeOf5
  v5 := Tryd.zeroValue5
  infoByte := by kernel_rfl
  cellsByte := by kernel_rfl
  sizeByte := by kernel_rfl
  neB5 := by decide }
open Go.RowKit in
theorem Tryd.Builder_WriteString (B b : Nat) (bs : List Value) (s : ByteArray) (w : World) (h : Lib.IsBuilder 118 5 B b bs w) (hlen : bs.length + s.size ≤ 140737488355328) (hBw : B ≤ w.heap.size) :
    Calls Tryd.prog 74 #[.pointer (some ⟨b, 0, none⟩), .string s] w fun e w' => e = .returned (.tuple #[.int .i64 s.size, .nilIface]) ∧ (Lib.BuilderAt 118 5 B b (.pointer (some ⟨b, 0, none⟩)) (bs ++ Lib.strCells s) w' ∧ Below B w w') := Any.Builder_WriteString Tryd.lays166 Tryd.Builder_Extra_166 B b bs s w h hlen hBw
def Tryd.lays169_ren : Go.Shelf.Ren := ⟨fun | 169 => 75 | n => n, fun | 70 => 116 | 9 => 9 | 0 => 0 | 72 => 118 | 37 => 77 | 127 => 152 | 3 => 3 | 5 => 5 | n => n, fun | n => n⟩
theorem Tryd.lays169 : Go.Proofs.Lays.n169 Tryd.prog Tryd.lays169_ren := {
  mixed := by kernel_rfl
  f169 := Tryd.func75.trans (congrArg some (by kernel_rfl))
  t0 := Tryd.underlying0
  a0 := Tryd.isAgg0
  z0 := Tryd.sizeOf0
  v0 := Tryd.zeroValue0
  t3 := Tryd.underlying3
  a3 := Tryd.isAgg3
  z3 := Tryd.sizeOf3
  v3 := Tryd.zeroValue3
  t9 := Tryd.underlying9
  a9 := Tryd.isAgg9
  z9 := Tryd.sizeOf9
  v9 := Tryd.zeroValue9
  t37 := Tryd.underlying77
  a37 := Tryd.isAgg77
  z37 := Tryd.sizeOf77
  v37 := Tryd.zeroValue77
  t70 := Tryd.underlying116
  a70 := Tryd.isAgg116
  z70 := Tryd.sizeOf116
  v70 := Tryd.zeroValue116
  t72 := Tryd.underlying118
  a72 := Tryd.isAgg118
  z72 := Tryd.sizeOf118
  v72 := Tryd.zeroValue118
  t127 := Tryd.underlying152
  a127 := Tryd.isAgg152
  z127 := Tryd.sizeOf152
  v127 := Tryd.zeroValue152 }
theorem Tryd.Builder_Extra_169 : Builder.Extra Tryd.prog Tryd.lays169_ren := {
  sizeBuilder := by kernel_rfl
  liesBuilder := by kernel_rfl
  t5 := Tryd.underlying5
  a5 := Tryd.isAgg5
  z5 := Tryd.sizeOf5
  v5 := Tryd.zeroValue5
  infoByte := by kernel_rfl
  cellsByte := by kernel_rfl
  sizeByte := by kernel_rfl
  neB5 := by decide }
open Go.RowKit in
theorem Tryd.Builder_String_any (B b : Nat) (l : List UInt8) (w : World) (h : Lib.IsBuilder 118 5 B b (Lib.byteCells l) w) (hBw : B ≤ w.heap.size) :
    Calls Tryd.prog 75 #[.pointer (some ⟨b, 0, none⟩)] w fun e w' => e = .returned (.string ⟨l.toArray⟩) ∧ Below B w w' := Any.Builder_String_any Tryd.lays169 Tryd.Builder_Extra_169 B b l w h hBw
def Tryd.laysM171_ren : Go.Shelf.Ren := ⟨fun | 171 => 76 | 243 => 109 | 246 => 134 | 283 => 155 | 284 => 156 | 285 => 157 | 286 => 158 | 129 => 168 | 317 => 167 | 318 => 169 | 319 => 170 | 320 => 171 | 337 => 174 | 338 => 175 | n => n, fun | 3 => 3 | 9 => 9 | 2 => 2 | 4 => 4 | 171 => 194 | 0 => 0 | 53 => 195 | 37 => 77 | 5 => 5 | 173 => 198 | 212 => 221 | 51 => 181 | 20 => 20 | 213 => 222 | 46 => 171 | 232 => 231 | 233 => 232 | n => n, fun | 17 => 5 | 18 => 6 | 19 => 7 | n => n⟩
theorem Tryd.laysM171 : Go.Proofs.LaysM.n171 Tryd.prog Tryd.laysM171_ren := {
  mixed := by kernel_rfl
  f129 := Tryd.func168.trans (congrArg some (by kernel_rfl))
  f171 := Tryd.func76.trans (congrArg some (by kernel_rfl))
  f243 := Tryd.func109.trans (congrArg some (by kernel_rfl))
  f246 := Tryd.func134.trans (congrArg some (by kernel_rfl))
  f283 := Tryd.func155.trans (congrArg some (by kernel_rfl))
  f284 := Tryd.func156.trans (congrArg some (by kernel_rfl))
  f285 := Tryd.func157.trans (congrArg some (by kernel_rfl))
  f286 := Tryd.func158.trans (congrArg some (by kernel_rfl))
  f317 := Tryd.func167.trans (congrArg some (by kernel_rfl))
  f318 := Tryd.func169.trans (congrArg some (by kernel_rfl))
  f319 := Tryd.func170.trans (congrArg some (by kernel_rfl))
  f320 := Tryd.func171.trans (congrArg some (by kernel_rfl))
  f337 := Tryd.func174.trans (congrArg some (by kernel_rfl))
  f338 := Tryd.func175.trans (congrArg some (by kernel_rfl))
  t0 := Tryd.underlying0
  a0 := Tryd.isAgg0
  z0 := Tryd.sizeOf0
  v0 := Tryd.zeroValue0
  t2 := Tryd.underlying2
  a2 := Tryd.isAgg2
  z2 := Tryd.sizeOf2
  v2 := Tryd.zeroValue2
  t3 := Tryd.underlying3
  a3 := Tryd.isAgg3
  z3 := Tryd.sizeOf3
  v3 := Tryd.zeroValue3
  t4 := Tryd.underlying4
  a4 := Tryd.isAgg4
  z4 := Tryd.sizeOf4
  v4 := Tryd.zeroValue4
  t5 := Tryd.underlying5
  a5 := Tryd.isAgg5
  z5 := Tryd.sizeOf5
  v5 := Tryd.zeroValue5
  t9 := Tryd.underlying9
  a9 := Tryd.isAgg9
  z9 := Tryd.sizeOf9
  v9 := Tryd.zeroValue9
  t20 := Tryd.underlying20
  a20 := Tryd.isAgg20
  z20 := Tryd.sizeOf20
  v20 := Tryd.zeroValue20
  t37 := Tryd.underlying77
  a37 := Tryd.isAgg77
  z37 := Tryd.sizeOf77
  v37 := Tryd.zeroValue77
  t46 := Tryd.underlying171
  a46 := Tryd.isAgg171
  z46 := Tryd.sizeOf171
  v46 := Tryd.zeroValue171
  t51 := Tryd.underlying181
  a51 := Tryd.isAgg181
  z51 := Tryd.sizeOf181
  v51 := Tryd.zeroValue181
  t53 := Tryd.underlying195
  a53 := Tryd.isAgg195
  z53 := Tryd.sizeOf195
  v53 := Tryd.zeroValue195
  t171 := Tryd.underlying194
  a171 := Tryd.isAgg194
  z171 := Tryd.sizeOf194
  v171 := Tryd.zeroValue194
  t173 := Tryd.underlying198
  a173 := Tryd.isAgg198
  z173 := Tryd.sizeOf198
  v173 := Tryd.zeroValue198
  t212 := Tryd.underlying221
  a212 := Tryd.isAgg221
  z212 := Tryd.sizeOf221
  v212 := Tryd.zeroValue221
  t213 := Tryd.underlying222
  a213 := Tryd.isAgg222
  z213 := Tryd.sizeOf222
  t232 := Tryd.underlying231
  a232 := Tryd.isAgg231
  z232 := Tryd.sizeOf231
  v232 := Tryd.zeroValue231
  t233 := Tryd.underlying232
  a233 := Tryd.isAgg232
  z233 := Tryd.sizeOf232
  v233 := Tryd.zeroValue232
  g17 := by kernel_rfl
  g18 := by kernel_rfl
  g19 := by kernel_rfl
  i0 := by kernel_rfl
  i2 := by kernel_rfl
  i3 := by kernel_rfl
  i4 := by kernel_rfl
  i5 := by kernel_rfl
  i9 := by kernel_rfl
  i20 := by kernel_rfl
  i37 := by kernel_rfl
  i46 := by kernel_rfl
  i51 := by kernel_rfl
  i53 := by kernel_rfl
  i171 := by kernel_rfl
  i173 := by kernel_rfl
  i212 := by kernel_rfl
  i232 := by kernel_rfl
  i233 := by kernel_rfl
  m17 := by kernel_rfl
  m18 := by kernel_rfl
  m19 := by kernel_rfl }
end Go.Proofs
end
section
namespace Go.Proofs.YtjfjniebmdafeaaDoor
open Go.RowKit Go.Lib Go.Ev Go.Shelf Go.Sort
theorem qkp {w : World} (h : Kept w) {nm : String} (hn : Tryd.prog.globalNamed nm = some 5) : Lib.TabIs Tryd.prog w nm .u64 Lib.pow10Tab := by
  obtain ⟨c, t, z, e, hc⟩ := h _ (List.Mem.head _)
  obtain rfl : c = _ := hc
  unfold Lib.TabIs World.var?
  rw [hn]
  simp only [Option.bind_some]
  rw [e]
theorem qg4 {w w' : World} (h : Kept w) (b : Below w.heap.size w w') : Kept w' :=
  h.frame (M := fun _ _ => False) (fr_of_below b) (fun _ _ _ h => h)
theorem qgp (n : Int) (hn : inI64 n = true) (w : World) (hk : Kept w) : Calls Tryd.prog 76 #[.int .i64 n] w fun e w' => e = .returned (.string ⟨(Lib.itoa n).toArray⟩) ∧ Below w.heap.size w w' := by
  unfold inI64 at hn
  simp only [Bool.and_eq_true, decide_eq_true_eq] at hn
  refine (Any.strconv_Itoa Tryd.laysM171 n hn.1 hn.2 w (qkp hk (by kernel_rfl))).mono ?_
  rintro e w' ⟨rfl, k, os, rfl⟩
  exact ⟨rfl, (below_drewN w w.heap.size k).trans (below_grow (w.drewN k) os)⟩
theorem qf6 (n : Int) (hn : inI64 n = true) (w : World) (hk : Kept w) : Calls Tryd.prog 37 #[.int .i64 n] w fun e w' => e = .returned (.string ⟨(Lib.itoa n).toArray⟩) ∧ Below w.heap.size w w' := by
  have c := qgp n hn w hk
  generalize (⟨(Lib.itoa n).toArray⟩ : ByteArray) = s at c ⊢
  go_enter Tryd.func37, Tryd.ntmps37
  go_wp2_with (go_at_call 76; refine c.mono ?_; rintro e w' ⟨rfl, hb⟩)
  go_ret
  exact ⟨rfl, hb⟩
theorem qi5 {B : Nat} {e : TypeId} {k : Nat} {v : Value} {n : Nat} {xs : List Value} {w w' : World} (h : w.ownsRow B e k v n xs) (hb : RowKit.Below w.heap.size w w') : w'.ownsRow B e k v n xs := by
  obtain ⟨h1, h2⟩ := h
  refine ⟨h1, h2.imp (fun h => h) ?_⟩
  rintro ⟨g, cap, cur, h3, h4, h5, h6⟩
  exact ⟨g, cap, cur, h3, h4, (hb.block g ((Array.getElem?_eq_some_iff.1 h5).1)).trans h5, h6⟩
theorem qa9 {T e : TypeId} {B b : Nat} {p : Value} {bs : List Value} {w w' : World} (h : BuilderAt T e B b p bs w) (hb : RowKit.Below w.heap.size w w') : BuilderAt T e B b p bs w' := by
  have lt := h.lt
  obtain ⟨hB, v, h1, h2, h3⟩ := h
  exact ⟨hB, v, (hb.block b lt).trans h1, qi5 h2 hb, h3⟩
theorem qin : ∀ (k u : Nat), u < 10 ^ (k + 1) → Lib.nDigits u ≤ k + 1
  | 0, u, h => by rw [Lib.nDigits, dif_pos (by simpa using h)]; exact Nat.le_refl 1
  | k + 1, u, h => by
    rw [Lib.nDigits]
    split
    · omega
    · have := qin k (u / 10) (by rw [Nat.pow_succ] at h; omega)
      omega
theorem qgt (x : Int) (h : inI64 x = true) : (Lib.itoa x).length ≤ 20 := by
  unfold inI64 at h
  simp only [Bool.and_eq_true, decide_eq_true_eq] at h
  unfold Lib.itoa
  split
  · rw [List.length_cons, Lib.decDigits_length]
    have := qin 18 x.natAbs (by omega)
    omega
  · rw [Lib.decDigits_length]
    have := qin 18 x.toNat (by omega)
    omega
theorem qf2 (xs : List Int) (h : ∀ x ∈ xs, inI64 x = true) : (xs.flatMap fun n => 32 :: Lib.itoa n).length ≤ 21 * xs.length := by
  induction xs with
  | nil => simp
  | cons x l ih =>
    have a := qgt x (h x List.mem_cons_self)
    have b := ih fun y hy => h y (List.mem_cons_of_mem _ hy)
    simp only [List.flatMap_cons, List.length_append, List.length_cons] at b ⊢
    omega
theorem qjm (word : ByteArray) (xs : List Int) (k : Nat) (hl : xs.length ≤ 1000) (h : ∀ x ∈ xs, inI64 x = true) : (byteCells (spacedL word.data.toList (xs.take k))).length ≤ word.size + 21000 := by
  have a := qf2 (xs.take k) fun x hx => h x (List.mem_of_mem_take hx)
  have b : (xs.take k).length ≤ xs.length := by rw [List.length_take]; omega
  rw [byteCells_length, spacedL, List.length_append, Array.length_toList]
  have : word.data.size = word.size := rfl
  omega
theorem qjn (word : ByteArray) (xs : List Int) (k : Nat) (x : Int) (h : xs[k]? = some x) : byteCells (spacedL word.data.toList (xs.take (k + 1))) = byteCells (spacedL word.data.toList (xs.take k)) ++ byteCells (32 :: Lib.itoa x) := by
  obtain ⟨hk, hx⟩ := List.getElem?_eq_some_iff.1 h
  rw [List.take_succ_eq_append_getElem hk, hx, ← byteCells_append]
  simp [spacedL]
theorem qkb (word : ByteArray) (xs : List Int) (b : Addr) (c : Nat) (w : World) (hk : Kept w) (hw : word.size ≤ 1000) (hl : xs.length ≤ 1000) (hx : ∀ x ∈ xs, inI64 x = true) (hc : ∀ i x, xs[i]? = some x → w.cell? (b.add i) = some (.int .i64 x)) :
    Calls Tryd.prog 36 #[.string word, .slice (some b) xs.length c] w fun e w' => e = .returned (.string ⟨(spacedL word.data.toList xs).toArray⟩) ∧ Below w.heap.size w w' := by
  have h0 : Lib.IsBuilder 118 5 w.heap.size w.heap.size [] (w.alloc (.cells #[.pointer none, .slice none 0 0] 118)) := Lib.fresh_isBuilder 118 5 w
  have b0 : Below w.heap.size w (w.alloc (.cells #[.pointer none, .slice none 0 0] 118)) := (Below.refl _ w).alloc (Nat.le_refl _) _
  go_enter Tryd.func36, Tryd.ntmps36
  go_wp2_with (go_at_call 74; refine (Tryd.Builder_WriteString w.heap.size w.heap.size [] word _ h0 (by simp; omega) b0.size).mono ?_)
  rintro e W1 ⟨rfl, h1, b1⟩
  have h1' : BuilderAt 118 5 w.heap.size w.heap.size (.pointer (some ⟨w.heap.size, 0, none⟩)) (byteCells (spacedL word.data.toList (xs.take 0))) W1 := by
    rw [List.nil_append, strCells_eq] at h1
    simpa [spacedL] using h1
  have b1' := b0.trans b1
  clear h0 b0 h1 b1
  go_wp2
  go_loopw [13] (fun i wr => ∃ k : Nat, k ≤ xs.length ∧ i = .int .i64 k ∧ BuilderAt 118 5 w.heap.size w.heap.size (.pointer (some ⟨w.heap.size, 0, none⟩)) (byteCells (spacedL word.data.toList (xs.take k))) wr ∧ RowKit.Below w.heap.size w wr) (fun i _ => xs.length - (RowKit.intOf i).toNat)
  case atStart => exact ⟨0, Nat.zero_le _, rfl, h1', b1'⟩
  case round =>
    obtain ⟨k, hkl, rfl, hB, hnx⟩ := hrel
    clear h1' b1'
    have hR := qjm word xs k hl hx
    by_cases hlt : k < xs.length
    · obtain ⟨x, ex⟩ : ∃ x, xs[k]? = some x := ⟨_, List.getElem?_eq_getElem hlt⟩
      have e0 : wr.cell? (b.add k) = some (.int .i64 x) := (hnx.cell (World.block_lt_of_cell? _ _ (hc k x ex))).trans (hc k x ex)
      have cF := qf6 x (hx x (List.mem_of_getElem? ex)) wr (qg4 hk hnx)
      have hS := qjn word xs k x ex
      have hsz := qgt x (hx x (List.mem_of_getElem? ex))
      go_wp2_with (go_at_call 37; refine cF.mono ?_)
      rintro e W2 ⟨rfl, b2⟩
      have hB2 := qa9 hB b2
      have b2' := hnx.trans (b2.mono hnx.size)
      clear cF e0 hB hnx b2
      go_wp2_with (go_at_call 74; refine (Tryd.Builder_WriteString w.heap.size w.heap.size _ _ _ (Or.inr hB2) ?_ b2'.size).mono ?_)
      · rw [ByteArray.size_append]
        have s1 : ({ data := (Lib.itoa x).toArray } : ByteArray).size = (Lib.itoa x).length := List.size_toArray ..
        have s2 : ({ data := #[32] } : ByteArray).size = 1 := rfl
        omega
      rintro e W3 ⟨rfl, h3, b3⟩
      go_wp2
      go_roundw
      case rel => exact ⟨k + 1, by omega, by go_num, hS ▸ h3, b2'.trans b3⟩
      case measure => simp [RowKit.intOf]; omega
    · go_wp2_with (go_at_call 75; refine (Tryd.Builder_String_any w.heap.size w.heap.size (spacedL word.data.toList (xs.take k)) _ (Or.inr hB) hnx.size).mono ?_)
      rintro e W2 ⟨rfl, b2⟩
      go_wp2
      go_ret
      refine ⟨?_, hnx.trans b2⟩
      rw [List.take_of_length_le (by omega)]; rfl
theorem qka (word : ByteArray) (c : Nat) (w : World) (hk : Kept w) (hw : word.size ≤ 1000) :
    Calls Tryd.prog 36 #[.string word, .slice none 0 c] w fun e w' => e = .returned (.string ⟨(spacedL word.data.toList []).toArray⟩) ∧ Below w.heap.size w w' := by
  have h0 : Lib.IsBuilder 118 5 w.heap.size w.heap.size [] (w.alloc (.cells #[.pointer none, .slice none 0 0] 118)) := Lib.fresh_isBuilder 118 5 w
  have b0 : Below w.heap.size w (w.alloc (.cells #[.pointer none, .slice none 0 0] 118)) := (Below.refl _ w).alloc (Nat.le_refl _) _
  go_enter Tryd.func36, Tryd.ntmps36
  go_wp2_with (go_at_call 74; refine (Tryd.Builder_WriteString w.heap.size w.heap.size [] word _ h0 (by simp; omega) b0.size).mono ?_)
  rintro e W1 ⟨rfl, h1, b1⟩
  have h1' : BuilderAt 118 5 w.heap.size w.heap.size (.pointer (some ⟨w.heap.size, 0, none⟩)) (byteCells (spacedL word.data.toList [])) W1 := by
    rw [List.nil_append, strCells_eq] at h1
    simpa [spacedL] using h1
  have b1' := b0.trans b1
  clear h0 b0 h1 b1
  go_wp2
  go_loopw [13] (fun i wr => ∃ k : Nat, k ≤ 0 ∧ i = .int .i64 k ∧ BuilderAt 118 5 w.heap.size w.heap.size (.pointer (some ⟨w.heap.size, 0, none⟩)) (byteCells (spacedL word.data.toList [])) wr ∧ RowKit.Below w.heap.size w wr) (fun i _ => 0 - (RowKit.intOf i).toNat)
  case atStart => exact ⟨0, Nat.zero_le _, rfl, h1', b1'⟩
  case round =>
    obtain ⟨k, hkl, rfl, hB, hnx⟩ := hrel
    clear h1' b1'
    obtain rfl : k = 0 := by omega
    go_wp2_with (go_at_call 75; refine (Tryd.Builder_String_any w.heap.size w.heap.size (spacedL word.data.toList []) _ (Or.inr hB) hnx.size).mono ?_)
    rintro e W2 ⟨rfl, b2⟩
    go_wp2
    go_ret
    refine ⟨?_, hnx.trans b2⟩
    rfl
end Go.Proofs.YtjfjniebmdafeaaDoor
end
section
namespace Go.Proofs.YtjfjniebmdafeaaDoor
open Go.Ev
def qjx (x0 : Int) (z1 : Bool) (l2 : List (Int × Int × Int)) (z3 : Bool) (l4 : List Int) (z5 : Bool) (l6 : List Int) (z7 : Bool) (l8 : List Int) (x9 : Int) : St := ⟨fill 84 [(1, (.ptr 4 (0) (0))), (3, (.int .i64 (x0)))], [], [(.arr false (z1) (.r3 (l2))), (.arr false (z3) (.ints .i64 (l4))), (.arr false (z5) (.ints .i64 (l6))), (.arr false (z7) (.ints .i64 (l8))), (.box true [(.int .i64 (x9)), (.sl 0 none), (.sl 1 none), (.sl 2 none), (.sl 3 none)])]⟩
def qjy (x0 : Int) (z1 : Bool) (l2 : List (Int × Int × Int)) (z3 : Bool) (l4 : List Int) (z5 : Bool) (l6 : List Int) (z7 : Bool) (l8 : List Int) (x9 : Int) : St := ⟨fill 84 [(1, (.ptr 4 (0) (0))), (4, (.int .i64 (x0)))], [], [(.arr false (z1) (.r3 (l2))), (.arr false (z3) (.ints .i64 (l4))), (.arr false (z5) (.ints .i64 (l6))), (.arr false (z7) (.ints .i64 (l8))), (.box true [(.int .i64 (x9)), (.sl 0 none), (.sl 1 none), (.sl 2 none), (.sl 3 none)])]⟩
theorem qe3 (k : Nat) (a0 : Int) (a1z : Bool) (a1 : List (Int × Int × Int)) (a2z : Bool) (a2 : List Int) (a3z : Bool) (a3 : List Int) (a4z : Bool) (a4 : List Int) : go (k + 1) spec_StateOk [(.agg [(.int .i64 (a0)), (.arr false (a1z) (.r3 (a1))), (.arr false (a2z) (.ints .i64 (a2))), (.arr false (a3z) (.ints .i64 (a3))), (.arr false (a4z) (.ints .i64 (a4)))])] =
 (go k spec_IsBalanced [(.agg [(.int .i64 (a0)), (.arr false (a1z) (.r3 (a1)))])]).bind fun r0 =>
 cond (!bit (nth r0 0))
 (some [(.bool (false))])
 (cond (!decide (nI (List.length a2) = nI (List.length a1)))
 (some [(.bool (false))])
 (cond (!decide (nI (List.length a3) = nI (List.length a2)))
 (some [(.bool (false))])
 (cond (!decide (nI (List.length a4) = a0))
 (some [(.bool (false))])
 (lp k spec_StateOk [] [] 4 k (qjx (0 : Int) a1z a1 a2z a2 a3z a3 a4z a4 a0))))) := by kernel_rfl
theorem qhe (k n : Nat) (fu : List (Nat × Nat)) (x0 : Int) (z1 : Bool) (l2 : List (Int × Int × Int)) (z3 : Bool) (l4 : List Int) (z5 : Bool) (l6 : List Int) (z7 : Bool) (l8 : List Int) (x9 : Int) : lp k spec_StateOk [] fu 4 (n + 1) (qjx x0 z1 l2 z3 l4 z5 l6 z7 l8 x9) =
 cond (decide (x0 < nI (List.length l4)))
 (cond (decide ((0 : Int) ≤ x0) && decide (x0 < nI (List.length l4)))
 ((go k spec_l01In [(.int .i64 (List.getD l4 (Int.toNat x0) (0 : Int))), (.int .i64 (0 : Int)), (.int .i64 ((10000000 : Int)))]).bind fun r0 =>
 cond (!bit (nth r0 0))
 (some [(.bool (false))])
 (cond (decide ((0 : Int) ≤ x0) && decide (x0 < nI (List.length l6)))
 (cond (decide ((0 : Int) ≤ x0) && decide (x0 < nI (List.length l4)))
 ((go k spec_l01In [(.int .i64 (List.getD l6 (Int.toNat x0) (0 : Int))), (.int .i64 (0 : Int)), (.int .i64 (IntKind.wrap .i64 ((1000 : Int) * List.getD l4 (Int.toNat x0) (0 : Int))))]).bind fun r1 =>
 cond (!bit (nth r1 0))
 (some [(.bool (false))])
 (lp k spec_StateOk [] fu 4 n (qjx (IntKind.wrap .i64 (x0 + (1 : Int))) z1 l2 z3 l4 z5 l6 z7 l8 x9)))
 (none))
 (none)))
 (none))
 (lp k spec_StateOk [] fu 9 k (qjy (0 : Int) z1 l2 z3 l4 z5 l6 z7 l8 x9)) := by kernel_rfl
theorem qhf (k n : Nat) (fu : List (Nat × Nat)) (x0 : Int) (z1 : Bool) (l2 : List (Int × Int × Int)) (z3 : Bool) (l4 : List Int) (z5 : Bool) (l6 : List Int) (z7 : Bool) (l8 : List Int) (x9 : Int) : lp k spec_StateOk [] fu 9 (n + 1) (qjy x0 z1 l2 z3 l4 z5 l6 z7 l8 x9) =
 cond (decide (x0 < nI (List.length l8)))
 (cond (decide ((0 : Int) ≤ x0) && decide (x0 < nI (List.length l8)))
 ((go k spec_l01In [(.int .i64 (List.getD l8 (Int.toNat x0) (0 : Int))), (.int .i64 (0 : Int)), (.int .i64 ((1000000 : Int)))]).bind fun r0 =>
 cond (!bit (nth r0 0))
 (some [(.bool (false))])
 (lp k spec_StateOk [] fu 9 n (qjy (IntKind.wrap .i64 (x0 + (1 : Int))) z1 l2 z3 l4 z5 l6 z7 l8 x9)))
 (none))
 ((go k spec_l07Sum [(.arr false (z3) (.ints .i64 (l4)))]).bind fun r1 =>
 some [(.bool (decide (D.toInt (nth r1 0) ≤ (10000000 : Int))))]) := by kernel_rfl
def qj4 (x0 x1 : Int) (z2 : Bool) (l3 : List Int) : St := ⟨fill 18 [(0, (.sl 0 none)), (3, (.int .i64 (x0))), (4, (.int .i64 (x1)))], [], [(.arr false (z2) (.ints .i64 (l3)))]⟩
theorem qfk (k : Nat) (az : Bool) (a : List Int) : go (k + 1) spec_l07Sum [(.arr false (az) (.ints .i64 (a)))] =
 lp k spec_l07Sum [] [] 3 k (qj4 (0 : Int) (0 : Int) az a) := by kernel_rfl
theorem qhl (k n : Nat) (fu : List (Nat × Nat)) (x0 x1 : Int) (z2 : Bool) (l3 : List Int) : lp k spec_l07Sum [] fu 3 (n + 1) (qj4 x0 x1 z2 l3) =
 cond (decide (x1 < nI (List.length l3)))
 (cond (decide ((0 : Int) ≤ x1) && decide (x1 < nI (List.length l3)))
 (lp k spec_l07Sum [] fu 3 n (qj4 (IntKind.wrap .i64 (x0 + List.getD l3 (Int.toNat x1) (0 : Int))) (IntKind.wrap .i64 (x1 + (1 : Int))) z2 l3))
 (none))
 (some [(.int .i64 (x0))]) := by kernel_rfl
theorem qfa (k : Nat) (a0 : Int) (a1z : Bool) (a1 : List (Int × Int × Int)) : go (k + 1) spec_l04Copy [(.agg [(.int .i64 (a0)), (.arr false (a1z) (.r3 (a1)))])] =
 cond (decide (List.length ([] ++ a1) ≤ bigLen))
 (some [(.agg [(.int .i64 (a0)), (.arr true (false && decide (List.length ([] ++ a1) = 0)) (.r3 ([] ++ a1)))])])
 (none) := by kernel_rfl
theorem qfi (k : Nat) (a0 : Int) (a1z : Bool) (a1 : List (Int × Int × Int)) (a2z : Bool) (a2 : List Int) (a3z : Bool) (a3 : List Int) (a4z : Bool) (a4 : List Int) : go (k + 1) spec_l07Copy [(.agg [(.int .i64 (a0)), (.arr false (a1z) (.r3 (a1))), (.arr false (a2z) (.ints .i64 (a2))), (.arr false (a3z) (.ints .i64 (a3))), (.arr false (a4z) (.ints .i64 (a4)))])] =
 (go k spec_l04Copy [(.agg [(.int .i64 (a0)), (.arr false (a1z) (.r3 (a1)))])]).bind fun r0 =>
 cond (decide (List.length ([] ++ a2) ≤ bigLen))
 (cond (decide (List.length ([] ++ a3) ≤ bigLen))
 (cond (decide (List.length ([] ++ a4) ≤ bigLen))
 (some [(.agg [(.int .i64 (D.toInt (D.cell 0 (nth r0 0)))), (.arr true (D.nil (D.cell 1 (nth r0 0))) (.r3 (D.r3 (D.cell 1 (nth r0 0))))), (.arr true (false && decide (List.length ([] ++ a2) = 0)) (.ints .i64 ([] ++ a2))), (.arr true (false && decide (List.length ([] ++ a3) = 0)) (.ints .i64 ([] ++ a3))), (.arr true (false && decide (List.length ([] ++ a4) = 0)) (.ints .i64 ([] ++ a4)))])])
 (none))
 (none))
 (none) := by kernel_rfl

end Go.Proofs.YtjfjniebmdafeaaDoor
end
section
namespace Go.Proofs.YtjfjniebmdafeaaDoor
open Go.Ev
theorem qen (k : Nat) (a b c : Int) : go (k + 1) impl_within [(.int .i64 (a)), (.int .i64 (b)), (.int .i64 (c))] =
 cond (decide (b ≤ a))
 (some [(.bool (decide (a ≤ c)))])
 (some [(.bool (false))]) := by kernel_rfl
theorem qey (k : Nat) (a0 a1 a2 : Int) : go (k + 1) spec_IdOk [(.agg [(.int .i64 (a0)), (.int .i64 (a1)), (.int .i64 (a2))])] =
 (go k spec_l01In [(.int .i64 (a0)), (.int .i64 (0 : Int)), (.int .i64 ((7 : Int)))]).bind fun r0 =>
 cond (bit (nth r0 0))
 ((go k spec_l01In [(.int .i64 (a1)), (.int .i64 (0 : Int)), (.int .i64 ((4 : Int)))]).bind fun r1 =>
 cond (bit (nth r1 0))
 (cond (decide ((0 : Int) ≤ a2))
 (cond (decide ((0 : Int) ≤ IntKind.wrap IntKind.u64 a1))
 (some [(.bool (decide (a2 < IntKind.wrap .i64 ((1 : Int) * (2 : Int) ^ shiftN .i64 (IntKind.wrap IntKind.u64 a1)))))])
 (none))
 (some [(.bool (false))]))
 (some [(.bool (false))]))
 (some [(.bool (false))]) := by kernel_rfl
theorem qe4 (k : Nat) (a : Int) : go (k + 1) spec_WidthOf [(.int .i64 (a))] =
 (go k spec_l01In [(.int .i64 (a)), (.int .i64 (0 : Int)), (.int .i64 ((4 : Int)))]).bind fun r0 =>
 cond (!bit (nth r0 0))
 (some [(.int .i64 (0 : Int))])
 (cond (decide ((0 : Int) ≤ IntKind.wrap IntKind.u64 a))
 (some [(.int .i64 (Int.fdiv (16 : Int) ((2 : Int) ^ shiftN .i64 (IntKind.wrap IntKind.u64 a))))])
 (none)) := by kernel_rfl
theorem qe2 (k : Nat) (a0 a1 a2 : Int) : go (k + 1) spec_StartOf [(.agg [(.int .i64 (a0)), (.int .i64 (a1)), (.int .i64 (a2))])] =
 (go k spec_IdOk [(.agg [(.int .i64 (a0)), (.int .i64 (a1)), (.int .i64 (a2))])]).bind fun r0 =>
 cond (!bit (nth r0 0))
 (some [(.int .i64 ((-1 : Int)))])
 ((go k spec_WidthOf [(.int .i64 (a1))]).bind fun r1 =>
 some [(.int .i64 (IntKind.wrap .i64 (IntKind.wrap .i64 (a0 * (16 : Int)) + IntKind.wrap .i64 (a2 * D.toInt (nth r1 0)))))]) := by kernel_rfl
theorem qfb (k : Nat) (a0 a1 a2 : Int) : go (k + 1) spec_l04End [(.agg [(.int .i64 (a0)), (.int .i64 (a1)), (.int .i64 (a2))])] =
 (go k spec_StartOf [(.agg [(.int .i64 (a0)), (.int .i64 (a1)), (.int .i64 (a2))])]).bind fun r0 =>
 (go k spec_WidthOf [(.int .i64 (a1))]).bind fun r1 =>
 some [(.int .i64 (IntKind.wrap .i64 (D.toInt (nth r0 0) + D.toInt (nth r1 0))))] := by kernel_rfl
def qjw (x0 x1 : Int) (z2 : Bool) (l3 : List (Int × Int × Int)) (x4 : Int) : St := ⟨fill 45 [(1, (.ptr 1 (0) (0))), (3, (.int .i64 (x0))), (4, (.int .i64 (x1)))], [], [(.arr false (z2) (.r3 (l3))), (.box true [(.int .i64 (x4)), (.sl 0 none)])]⟩
theorem qe0 (k : Nat) (a0 : Int) (a1z : Bool) (a1 : List (Int × Int × Int)) : go (k + 1) spec_MeshOk [(.agg [(.int .i64 (a0)), (.arr false (a1z) (.r3 (a1)))])] =
 lp k spec_MeshOk [] [] 3 k (qjw (0 : Int) (0 : Int) a1z a1 a0) := by kernel_rfl
theorem qhd (k n : Nat) (fu : List (Nat × Nat)) (x0 x1 : Int) (z2 : Bool) (l3 : List (Int × Int × Int)) (x4 : Int) : lp k spec_MeshOk [] fu 3 (n + 1) (qjw x0 x1 z2 l3 x4) =
 cond (decide (x1 < nI (List.length l3)))
 (cond (decide ((0 : Int) ≤ x1) && decide (x1 < nI (List.length l3)))
 ((go k spec_IdOk [(.agg [(.int .i64 (Prod.fst (List.getD l3 (Int.toNat x1) zz3))), (.int .i64 (Prod.fst (Prod.snd (List.getD l3 (Int.toNat x1) zz3)))), (.int .i64 (Prod.snd (Prod.snd (List.getD l3 (Int.toNat x1) zz3))))])]).bind fun r0 =>
 cond (!bit (nth r0 0))
 (some [(.bool (false))])
 (cond (decide ((0 : Int) ≤ x1) && decide (x1 < nI (List.length l3)))
 ((go k spec_StartOf [(.agg [(.int .i64 (Prod.fst (List.getD l3 (Int.toNat x1) zz3))), (.int .i64 (Prod.fst (Prod.snd (List.getD l3 (Int.toNat x1) zz3)))), (.int .i64 (Prod.snd (Prod.snd (List.getD l3 (Int.toNat x1) zz3))))])]).bind fun r1 =>
 cond (!decide (D.toInt (nth r1 0) = x0))
 (some [(.bool (false))])
 (cond (decide ((0 : Int) ≤ x1) && decide (x1 < nI (List.length l3)))
 ((go k spec_l04End [(.agg [(.int .i64 (Prod.fst (List.getD l3 (Int.toNat x1) zz3))), (.int .i64 (Prod.fst (Prod.snd (List.getD l3 (Int.toNat x1) zz3)))), (.int .i64 (Prod.snd (Prod.snd (List.getD l3 (Int.toNat x1) zz3))))])]).bind fun r2 =>
 lp k spec_MeshOk [] fu 3 n (qjw (D.toInt (nth r2 0)) (IntKind.wrap .i64 (x1 + (1 : Int))) z2 l3 x4))
 (none)))
 (none)))
 (none))
 ((go k spec_l01In [(.int .i64 (x4)), (.int .i64 ((1 : Int))), (.int .i64 ((8 : Int)))]).bind fun r3 =>
 cond (bit (nth r3 0))
 (some [(.bool (decide (x0 = IntKind.wrap .i64 (x4 * (16 : Int)))))])
 (some [(.bool (false))])) := by kernel_rfl
def qjo (x0 x1 x2 : Int) (z3 : Bool) (l4 : List (Int × Int × Int)) (x5 : Int) : St := ⟨fill 35 [(1, (.ptr 1 (0) (0))), (3, (.int .i64 (x0))), (7, (.sl 0 none)), (8, (.int .i64 (x1))), (9, (.int .i64 (x2)))], [], [(.arr false (z3) (.r3 (l4))), (.box true [(.int .i64 (x5)), (.sl 0 none)])]⟩
def qj1 (x0 : Int) (z1 : Bool) (l2 : List (Int × Int × Int)) (x3 : Int) : St := ⟨fill 34 [(1, (.ptr 1 (0) (0))), (3, (.int .i64 (x0)))], [], [(.arr false (z1) (.r3 (l2))), (.box true [(.int .i64 (x3)), (.sl 0 none)])]⟩
theorem qff (k : Nat) (a0 : Int) (a1z : Bool) (a1 : List (Int × Int × Int)) : go (k + 1) spec_l05First [(.agg [(.int .i64 (a0)), (.arr false (a1z) (.r3 (a1)))])] =
 lp k spec_l05First [] [] 2 k (qj1 (0 : Int) a1z a1 a0) := by kernel_rfl
theorem qhi (k n : Nat) (fu : List (Nat × Nat)) (x0 : Int) (z1 : Bool) (l2 : List (Int × Int × Int)) (x3 : Int) : lp k spec_l05First [] fu 2 (n + 1) (qj1 x0 z1 l2 x3) =
 cond (decide (IntKind.wrap .i64 (x0 + (1 : Int)) < nI (List.length l2)))
 (cond (decide ((0 : Int) ≤ x0) && decide (x0 < nI (List.length l2)))
 (cond (decide ((0 : Int) ≤ IntKind.wrap .i64 (x0 + (1 : Int))) && decide (IntKind.wrap .i64 (x0 + (1 : Int)) < nI (List.length l2)))
 (cond (decide ((1 : Int) < IntKind.wrap .i64 (Prod.fst (Prod.snd (List.getD l2 (Int.toNat x0) zz3)) - Prod.fst (Prod.snd (List.getD l2 (Int.toNat (IntKind.wrap .i64 (x0 + (1 : Int)))) zz3)))))
 (some [(.int .i64 (x0))])
 (cond (decide (IntKind.wrap .i64 (Prod.fst (Prod.snd (List.getD l2 (Int.toNat x0) zz3)) - Prod.fst (Prod.snd (List.getD l2 (Int.toNat (IntKind.wrap .i64 (x0 + (1 : Int)))) zz3))) < (-1 : Int)))
 (some [(.int .i64 (x0))])
 (lp k spec_l05First [] fu 2 n (qj1 (IntKind.wrap .i64 (x0 + (1 : Int))) z1 l2 x3))))
 (none))
 (none))
 (some [(.int .i64 ((-1 : Int)))]) := by kernel_rfl
theorem qez (k : Nat) (a0 : Int) (a1z : Bool) (a1 : List (Int × Int × Int)) : go (k + 1) spec_IsBalanced [(.agg [(.int .i64 (a0)), (.arr false (a1z) (.r3 (a1)))])] =
 (go k spec_MeshOk [(.agg [(.int .i64 (a0)), (.arr false (a1z) (.r3 (a1)))])]).bind fun r0 =>
 cond (bit (nth r0 0))
 ((go k spec_l05First [(.agg [(.int .i64 (a0)), (.arr false (a1z) (.r3 (a1)))])]).bind fun r1 =>
 some [(.bool (decide (D.toInt (nth r1 0) < (0 : Int))))])
 (some [(.bool (false))]) := by kernel_rfl
end Go.Proofs.YtjfjniebmdafeaaDoor
end
section
namespace Go.Proofs.YtjfjniebmdafeaaDoor
open Go.Ev
theorem qk7 {x : Int} (h : -9223372036854775808 ≤ x) (h' : x ≤ 9223372036854775807) : IntKind.wrap .i64 x = x := by rw [IntKind.wrap_i64]; omega
theorem qk8 {x : Int} (h : 0 ≤ x) (h' : x ≤ 9223372036854775807) : IntKind.wrap .u64 x = x := by rw [IntKind.wrap_u64]; omega
theorem nth0 (d0 : D) (l : List D) : nth (d0 :: l) 0 = d0 := Eq.trans rfl rfl
theorem nth1 (d0 d1 : D) (l : List D) : nth (d0 :: d1 :: l) 1 = d1 := Eq.trans rfl rfl
theorem nth2 (d0 d1 d2 : D) (l : List D) : nth (d0 :: d1 :: d2 :: l) 2 = d2 := Eq.trans rfl rfl
theorem nth3 (d0 d1 d2 d3 : D) (l : List D) : nth (d0 :: d1 :: d2 :: d3 :: l) 3 = d3 := Eq.trans rfl rfl
theorem qcy (d0 : D) (l : List D) : (D.agg (d0 :: l)).cell 0 = d0 := Eq.trans rfl rfl
theorem qcz (d0 d1 : D) (l : List D) : (D.agg (d0 :: d1 :: l)).cell 1 = d1 := Eq.trans rfl rfl
theorem qda (d0 d1 d2 : D) (l : List D) : (D.agg (d0 :: d1 :: d2 :: l)).cell 2 = d2 := Eq.trans rfl rfl
theorem qdf (d0 d1 d2 d3 : D) (l : List D) : (D.agg (d0 :: d1 :: d2 :: d3 :: l)).cell 3 = d3 := Eq.trans rfl rfl
theorem qdg (d0 d1 d2 d3 d4 : D) (l : List D) : (D.agg (d0 :: d1 :: d2 :: d3 :: d4 :: l)).cell 4 = d4 := Eq.trans rfl rfl
theorem qdh (d0 d1 d2 d3 d4 d5 : D) (l : List D) : (D.agg (d0 :: d1 :: d2 :: d3 :: d4 :: d5 :: l)).cell 5 = d5 := Eq.trans rfl rfl
theorem qdi (d0 d1 d2 d3 d4 d5 d6 : D) (l : List D) : (D.agg (d0 :: d1 :: d2 :: d3 :: d4 :: d5 :: d6 :: l)).cell 6 = d6 := Eq.trans rfl rfl
theorem qdj (d0 d1 d2 d3 d4 d5 d6 d7 : D) (l : List D) : (D.agg (d0 :: d1 :: d2 :: d3 :: d4 :: d5 :: d6 :: d7 :: l)).cell 7 = d7 := Eq.trans rfl rfl
theorem qdk (d0 d1 d2 d3 d4 d5 d6 d7 d8 : D) (l : List D) : (D.agg (d0 :: d1 :: d2 :: d3 :: d4 :: d5 :: d6 :: d7 :: d8 :: l)).cell 8 = d8 := Eq.trans rfl rfl
theorem qdl (d0 d1 d2 d3 d4 d5 d6 d7 d8 d9 : D) (l : List D) : (D.agg (d0 :: d1 :: d2 :: d3 :: d4 :: d5 :: d6 :: d7 :: d8 :: d9 :: l)).cell 9 = d9 := Eq.trans rfl rfl
theorem qc0 (d0 d1 d2 d3 d4 d5 d6 d7 d8 d9 d10 : D) (l : List D) : (D.agg (d0 :: d1 :: d2 :: d3 :: d4 :: d5 :: d6 :: d7 :: d8 :: d9 :: d10 :: l)).cell 10 = d10 := Eq.trans rfl rfl
theorem qc1 (d0 d1 d2 d3 d4 d5 d6 d7 d8 d9 d10 d11 : D) (l : List D) : (D.agg (d0 :: d1 :: d2 :: d3 :: d4 :: d5 :: d6 :: d7 :: d8 :: d9 :: d10 :: d11 :: l)).cell 11 = d11 := Eq.trans rfl rfl
theorem qc2 (d0 d1 d2 d3 d4 d5 d6 d7 d8 d9 d10 d11 d12 : D) (l : List D) : (D.agg (d0 :: d1 :: d2 :: d3 :: d4 :: d5 :: d6 :: d7 :: d8 :: d9 :: d10 :: d11 :: d12 :: l)).cell 12 = d12 := Eq.trans rfl rfl
theorem qc3 (d0 d1 d2 d3 d4 d5 d6 d7 d8 d9 d10 d11 d12 d13 : D) (l : List D) : (D.agg (d0 :: d1 :: d2 :: d3 :: d4 :: d5 :: d6 :: d7 :: d8 :: d9 :: d10 :: d11 :: d12 :: d13 :: l)).cell 13 = d13 := Eq.trans rfl rfl
theorem qc4 (d0 d1 d2 d3 d4 d5 d6 d7 d8 d9 d10 d11 d12 d13 d14 : D) (l : List D) : (D.agg (d0 :: d1 :: d2 :: d3 :: d4 :: d5 :: d6 :: d7 :: d8 :: d9 :: d10 :: d11 :: d12 :: d13 :: d14 :: l)).cell 14 = d14 := Eq.trans rfl rfl
theorem qc5 (d0 d1 d2 d3 d4 d5 d6 d7 d8 d9 d10 d11 d12 d13 d14 d15 : D) (l : List D) : (D.agg (d0 :: d1 :: d2 :: d3 :: d4 :: d5 :: d6 :: d7 :: d8 :: d9 :: d10 :: d11 :: d12 :: d13 :: d14 :: d15 :: l)).cell 15 = d15 := Eq.trans rfl rfl
theorem qc6 (d0 d1 d2 d3 d4 d5 d6 d7 d8 d9 d10 d11 d12 d13 d14 d15 d16 : D) (l : List D) : (D.agg (d0 :: d1 :: d2 :: d3 :: d4 :: d5 :: d6 :: d7 :: d8 :: d9 :: d10 :: d11 :: d12 :: d13 :: d14 :: d15 :: d16 :: l)).cell 16 = d16 := Eq.trans rfl rfl
theorem qc7 (d0 d1 d2 d3 d4 d5 d6 d7 d8 d9 d10 d11 d12 d13 d14 d15 d16 d17 : D) (l : List D) : (D.agg (d0 :: d1 :: d2 :: d3 :: d4 :: d5 :: d6 :: d7 :: d8 :: d9 :: d10 :: d11 :: d12 :: d13 :: d14 :: d15 :: d16 :: d17 :: l)).cell 17 = d17 := Eq.trans rfl rfl
theorem qc8 (d0 d1 d2 d3 d4 d5 d6 d7 d8 d9 d10 d11 d12 d13 d14 d15 d16 d17 d18 : D) (l : List D) : (D.agg (d0 :: d1 :: d2 :: d3 :: d4 :: d5 :: d6 :: d7 :: d8 :: d9 :: d10 :: d11 :: d12 :: d13 :: d14 :: d15 :: d16 :: d17 :: d18 :: l)).cell 18 = d18 := Eq.trans rfl rfl
theorem qc9 (d0 d1 d2 d3 d4 d5 d6 d7 d8 d9 d10 d11 d12 d13 d14 d15 d16 d17 d18 d19 : D) (l : List D) : (D.agg (d0 :: d1 :: d2 :: d3 :: d4 :: d5 :: d6 :: d7 :: d8 :: d9 :: d10 :: d11 :: d12 :: d13 :: d14 :: d15 :: d16 :: d17 :: d18 :: d19 :: l)).cell 19 = d19 := Eq.trans rfl rfl
theorem qdb (d0 d1 d2 d3 d4 d5 d6 d7 d8 d9 d10 d11 d12 d13 d14 d15 d16 d17 d18 d19 d20 : D) (l : List D) : (D.agg (d0 :: d1 :: d2 :: d3 :: d4 :: d5 :: d6 :: d7 :: d8 :: d9 :: d10 :: d11 :: d12 :: d13 :: d14 :: d15 :: d16 :: d17 :: d18 :: d19 :: d20 :: l)).cell 20 = d20 := Eq.trans rfl rfl
theorem qdc (d0 d1 d2 d3 d4 d5 d6 d7 d8 d9 d10 d11 d12 d13 d14 d15 d16 d17 d18 d19 d20 d21 : D) (l : List D) : (D.agg (d0 :: d1 :: d2 :: d3 :: d4 :: d5 :: d6 :: d7 :: d8 :: d9 :: d10 :: d11 :: d12 :: d13 :: d14 :: d15 :: d16 :: d17 :: d18 :: d19 :: d20 :: d21 :: l)).cell 21 = d21 := Eq.trans rfl rfl
theorem qdd (d0 d1 d2 d3 d4 d5 d6 d7 d8 d9 d10 d11 d12 d13 d14 d15 d16 d17 d18 d19 d20 d21 d22 : D) (l : List D) : (D.agg (d0 :: d1 :: d2 :: d3 :: d4 :: d5 :: d6 :: d7 :: d8 :: d9 :: d10 :: d11 :: d12 :: d13 :: d14 :: d15 :: d16 :: d17 :: d18 :: d19 :: d20 :: d21 :: d22 :: l)).cell 22 = d22 := Eq.trans rfl rfl
theorem qde (d0 d1 d2 d3 d4 d5 d6 d7 d8 d9 d10 d11 d12 d13 d14 d15 d16 d17 d18 d19 d20 d21 d22 d23 : D) (l : List D) : (D.agg (d0 :: d1 :: d2 :: d3 :: d4 :: d5 :: d6 :: d7 :: d8 :: d9 :: d10 :: d11 :: d12 :: d13 :: d14 :: d15 :: d16 :: d17 :: d18 :: d19 :: d20 :: d21 :: d22 :: d23 :: l)).cell 23 = d23 := Eq.trans rfl rfl
theorem qkt (k : IntKind) (n : Int) : (D.int k n).toInt = n := Eq.trans rfl rfl
theorem qks (b : Bool) : (D.bool b).toBool = b := Eq.trans rfl rfl
theorem qku (s : ByteArray) : (D.str s).toStr = s := Eq.trans rfl rfl
theorem qip (o n : Bool) (a : Arr) : (D.arr o n a).nil = n := Eq.trans rfl rfl
theorem qjf (o n : Bool) (l : List (Int × Int × Int)) : (D.arr o n (.r3 l)).r3 = l := Eq.trans rfl rfl
theorem qjh (o n : Bool) (l : List (Int × Int × Int × Int)) : (D.arr o n (.r4 l)).r4 = l := Eq.trans rfl rfl
theorem qgi (o n : Bool) (k : IntKind) (l : List Int) : (D.arr o n (.ints k l)).ints = l := Eq.trans rfl rfl
theorem qa7 (o n : Bool) (l : List Bool) : (D.arr o n (.bools l)).bools = l := Eq.trans rfl rfl
theorem qkn (o n : Bool) (l : List ByteArray) : (D.arr o n (.strs l)).strs = l := Eq.trans rfl rfl
theorem qdu {α : Type} (x y : α) : cond true x y = x := Eq.trans rfl rfl
theorem qds {α : Type} (x y : α) : cond false x y = y := Eq.trans rfl rfl
theorem qa4 {α : Type} (x : List D) (f : List D → Option α) : (some x).bind f = f x := Eq.trans rfl rfl
theorem dT {p : Prop} {i : Decidable p} (h : p) : @decide p i = true := by cases i <;> simp_all
theorem dF {p : Prop} {i : Decidable p} (h : ¬p) : @decide p i = false := by cases i <;> simp_all
theorem qcw (i : Nat) : (i : Int) + 1 = ((i + 1 : Nat) : Int) := Eq.trans rfl rfl
theorem qcx (i : Nat) : (i : Int) + 2 = ((i + 2 : Nat) : Int) := Eq.trans rfl rfl
theorem imax (x y : Int) : (if x > y then x else y) = max x y := by by_cases h : x > y <;> simp only [h, if_true, if_false] <;> omega
theorem imin (x y : Int) : (if x < y then x else y) = min x y := by by_cases h : x < y <;> simp only [h, if_true, if_false] <;> omega
theorem qdv (b x : Bool) : cond (!b) (some [D.bool false]) (some [D.bool x]) = some [D.bool (b && x)] := by cases b <;> rfl
theorem qdw (b x : Bool) : cond b (some [D.bool x]) (some [D.bool false]) = some [D.bool (b && x)] := by cases b <;> rfl
theorem dTT {i : Decidable True} : @decide True i = true := by cases i with | isTrue _ => rfl | isFalse h => exact absurd trivial h
theorem dFF {i : Decidable False} : @decide False i = false := by cases i with | isTrue h => exact h.elim | isFalse _ => rfl
theorem bigI : ((bigLen : Nat) : Int) = 1099511627776 := Eq.trans rfl rfl
theorem qio {α : Type} (l : List α) : [] ++ l = l := Eq.trans rfl rfl
theorem big0 : bigLen = 1099511627776 := Eq.trans rfl rfl
theorem qd5 {α : Type} {l : List α} {i : Nat} (h : i < l.length) (d : α) : l.drop i = l.getD i d :: l.drop (i + 1) := by
  rw [List.drop_eq_getElem_cons h]; simp [h]
theorem qf7 {α : Type} {l : List α} {i : Nat} (h : l.length ≤ i) (d : α) : l.getD i d = d := by simp [h]
theorem qf8 {α : Type} {l : List α} {i : Nat} (h : i < l.length) (d : α) : l.getD i d ∈ l := by simp [h]
end Go.Proofs.YtjfjniebmdafeaaDoor
end
section
namespace Go.Proofs.YtjfjniebmdafeaaDoor
open Go.Ev
def inR (a b c : Int) : Bool := decide (b ≤ a) && decide (a ≤ c)
theorem qgf {a b c : Int} : inR a b c = true ↔ b ≤ a ∧ a ≤ c := by simp [inR]
theorem qcd (k : Nat) (hk : 2000000 ≤ k) (a : Int) (b : Int) (c : Int) : go (k + 1) spec_l01In [(.int .i64 (a)), (.int .i64 (b)), (.int .i64 (c))] = some [.bool (inR a b c)] := by
  rw [qe8]; unfold inR; cases decide (b ≤ a) <;> rfl
theorem qbu (k : Nat) (hk : 2000000 ≤ k) (a : Int) (b : Int) (c : Int) : go (k + 1) impl_within [(.int .i64 (a)), (.int .i64 (b)), (.int .i64 (c))] = some [.bool (inR a b c)] := by
  rw [qen]; unfold inR; cases decide (b ≤ a) <;> rfl
def pow2 (l : Int) : Int := 2 ^ l.toNat
def idOk (r l i : Int) : Bool := inR r 0 7 && (inR l 0 4 && (decide (0 ≤ i) && decide (i < pow2 l)))
theorem lev {l : Int} (h : inR l 0 4 = true) : l = 0 ∨ l = 1 ∨ l = 2 ∨ l = 3 ∨ l = 4 := by
  simp only [inR, Bool.and_eq_true, decide_eq_true_eq] at h; omega
theorem p20 : pow2 0 = 1 := rfl
theorem p21 : pow2 1 = 2 := rfl
theorem p22 : pow2 2 = 4 := rfl
theorem p23 : pow2 3 = 8 := rfl
theorem p24 : pow2 4 = 16 := rfl
theorem sh0 : shiftN .i64 0 = 0 := by decide
theorem sh1 : shiftN .i64 1 = 1 := by decide
theorem sh2 : shiftN .i64 2 = 2 := by decide
theorem sh3 : shiftN .i64 3 = 3 := by decide
theorem sh4 : shiftN .i64 4 = 4 := by decide
theorem pw {l : Int} (h : inR l 0 4 = true) : IntKind.wrap .i64 ((1 : Int) * (2 : Int) ^ shiftN .i64 l) = pow2 l := by
  rcases lev h with rfl | rfl | rfl | rfl | rfl <;> simp [sh0, sh1, sh2, sh3, sh4, qk7, p20, p21, p22, p23, p24]
theorem lev0 {l : Int} (h : inR l 0 4 = true) : 0 ≤ l ∧ l ≤ 4 := by
  simp only [inR, Bool.and_eq_true, decide_eq_true_eq] at h; omega
theorem qja {l : Int} (h : inR l 0 4 = true) : 1 ≤ pow2 l ∧ pow2 l ≤ 16 := by
  rcases lev h with rfl | rfl | rfl | rfl | rfl <;> simp [p20, p21, p22, p23, p24]
theorem qb2 (k : Nat) (hk : 2000000 ≤ k) (a0 : Int) (a1 : Int) (a2 : Int) : go (k + 2) spec_IdOk [(.agg [(.int .i64 (a0)), (.int .i64 (a1)), (.int .i64 (a2))])] = some [.bool (idOk a0 a1 a2)] := by
  rw [qey]
  simp (disch := omega) only [qa4, nth0, nth1, nth2, nth3, bit, qcy, qcz, qda, qdf, qdg, qdh, qdi, qdj, qdk, qdl, qc0, qc1, qc2, qc3, qc4, qc5, qc6, qc7, qc8, qc9, qdb, qdc, qdd, qde, qkt, qks, qku, qip, qjf, qjh, qgi, qa7, qkn, nI, qdu, qds, Bool.not_true, Bool.not_false, Bool.and_true, Bool.true_and, Bool.and_false, Bool.false_and, Bool.or_true, Bool.true_or, Bool.or_false, Bool.false_or, beq_self_eq_true, dTT, dFF, dT, dF, bigI, big0, qio, qk7, qk8, List.length_set, List.length_replicate, Int.toNat_natCast, qcw, qcx, imax, imin, qcd]
  unfold idOk
  cases h1 : inR a0 0 7 <;> cases h2 : inR a1 0 4 <;> simp only [qdu, qds, Bool.true_and, Bool.false_and, Bool.and_false]
  have := lev0 h2
  rw [qk8 (x := a1) (by omega) (by omega), pw h2]
  by_cases h3 : (0 : Int) ≤ a2
  · simp [h3, this.1]
  · simp [h3]
def qk3 (l : Int) : Int := if inR l 0 4 then 16 / pow2 l else 0
theorem qb8 (k : Nat) (hk : 2000000 ≤ k) (a : Int) : go (k + 2) spec_WidthOf [(.int .i64 (a))] = some [.int .i64 (qk3 a)] := by
  rw [qe4]
  simp (disch := omega) only [qa4, nth0, nth1, nth2, nth3, bit, qcy, qcz, qda, qdf, qdg, qdh, qdi, qdj, qdk, qdl, qc0, qc1, qc2, qc3, qc4, qc5, qc6, qc7, qc8, qc9, qdb, qdc, qdd, qde, qkt, qks, qku, qip, qjf, qjh, qgi, qa7, qkn, nI, qdu, qds, Bool.not_true, Bool.not_false, Bool.and_true, Bool.true_and, Bool.and_false, Bool.false_and, Bool.or_true, Bool.true_or, Bool.or_false, Bool.false_or, beq_self_eq_true, dTT, dFF, dT, dF, bigI, big0, qio, qk7, qk8, List.length_set, List.length_replicate, Int.toNat_natCast, qcw, qcx, imax, imin, qcd, qk3]
  cases h2 : inR a 0 4
  · simp
  · rcases lev h2 with rfl | rfl | rfl | rfl | rfl <;> simp [qk8, sh0, sh1, sh2, sh3, sh4, p20, p21, p22, p23, p24] <;> decide
def qkh (r l i : Int) : Int := if idOk r l i then r * 16 + i * qk3 l else -1
theorem qk5 (l : Int) : 0 ≤ qk3 l ∧ qk3 l ≤ 16 := by
  unfold qk3
  cases h : inR l 0 4
  · simp
  · rcases lev h with rfl | rfl | rfl | rfl | rfl <;> decide
theorem qge {r l i : Int} (h : idOk r l i = true) : 0 ≤ r ∧ r ≤ 7 ∧ inR l 0 4 = true ∧ 0 ≤ i ∧ i < pow2 l := by
  simp only [idOk, Bool.and_eq_true, decide_eq_true_eq] at h
  obtain ⟨h1, h2, h3, h4⟩ := h
  simp only [inR, Bool.and_eq_true, decide_eq_true_eq] at h1
  exact ⟨h1.1, h1.2, h2, h3, h4⟩
theorem iw {r l i : Int} (h : idOk r l i = true) : 0 ≤ i * qk3 l ∧ i * qk3 l ≤ 256 := by
  obtain ⟨_, _, h2, h3, h4⟩ := qge h
  have h5 := (qja h2).2
  have h6 := qk5 l
  have h7 : i ≤ 16 := by omega
  refine ⟨Int.mul_nonneg h3 h6.1, ?_⟩
  calc i * qk3 l ≤ 16 * qk3 l := Int.mul_le_mul_of_nonneg_right h7 h6.1
    _ ≤ 16 * 16 := Int.mul_le_mul_of_nonneg_left h6.2 (by omega)
theorem qki (r l i : Int) : -1 ≤ qkh r l i ∧ qkh r l i ≤ 1000 := by
  unfold qkh
  cases h : idOk r l i
  · simp
  · have := iw h; have := qge h
    simp; omega
theorem qkk {r l i : Int} (h : idOk r l i = true) : IntKind.wrap .i64 (IntKind.wrap .i64 (r * (16 : Int)) + IntKind.wrap .i64 (i * qk3 l)) = qkh r l i := by
  have h1 := iw h; have h2 := qge h
  rw [qk7 (x := r * 16) (by omega) (by omega), qk7 (x := i * qk3 l) (by omega) (by omega), qk7 (by omega) (by omega)]
  simp [qkh, h]
theorem qb6 (k : Nat) (hk : 2000000 ≤ k) (a0 : Int) (a1 : Int) (a2 : Int) : go (k + 3) spec_StartOf [(.agg [(.int .i64 (a0)), (.int .i64 (a1)), (.int .i64 (a2))])] = some [.int .i64 (qkh a0 a1 a2)] := by
  rw [qe2]
  simp (disch := omega) only [qa4, nth0, nth1, nth2, nth3, bit, qcy, qcz, qda, qdf, qdg, qdh, qdi, qdj, qdk, qdl, qc0, qc1, qc2, qc3, qc4, qc5, qc6, qc7, qc8, qc9, qdb, qdc, qdd, qde, qkt, qks, qku, qip, qjf, qjh, qgi, qa7, qkn, nI, qdu, qds, Bool.not_true, Bool.not_false, Bool.and_true, Bool.true_and, Bool.and_false, Bool.false_and, Bool.or_true, Bool.true_or, Bool.or_false, Bool.false_or, beq_self_eq_true, dTT, dFF, dT, dF, bigI, big0, qio, qk7, qk8, List.length_set, List.length_replicate, Int.toNat_natCast, qcw, qcx, imax, imin, qb2, qb8]
  cases h : idOk a0 a1 a2
  · simp [qkh, h]
  · rw [qkk h]; rfl
theorem qfr (r l i : Int) : IntKind.wrap .i64 (qkh r l i + qk3 l) = qkh r l i + qk3 l := by
  have h1 := qki r l i; have h2 := qk5 l
  exact qk7 (by omega) (by omega)
theorem qcg (k : Nat) (hk : 2000000 ≤ k) (a0 : Int) (a1 : Int) (a2 : Int) : go (k + 4) spec_l04End [(.agg [(.int .i64 (a0)), (.int .i64 (a1)), (.int .i64 (a2))])] = some [.int .i64 (qkh a0 a1 a2 + qk3 a1)] := by
  rw [qfb]
  simp (disch := omega) only [qa4, nth0, nth1, nth2, nth3, bit, qcy, qcz, qda, qdf, qdg, qdh, qdi, qdj, qdk, qdl, qc0, qc1, qc2, qc3, qc4, qc5, qc6, qc7, qc8, qc9, qdb, qdc, qdd, qde, qkt, qks, qku, qip, qjf, qjh, qgi, qa7, qkn, nI, qdu, qds, Bool.not_true, Bool.not_false, Bool.and_true, Bool.true_and, Bool.and_false, Bool.false_and, Bool.or_true, Bool.true_or, Bool.or_false, Bool.false_or, beq_self_eq_true, dTT, dFF, dT, dF, bigI, big0, qio, qk7, qk8, List.length_set, List.length_replicate, Int.toNat_natCast, qcw, qcx, imax, imin, qb6, qb8, qfr]
abbrev Cell := Int × Int × Int
def qie (roots : Int) : Int → List Cell → Bool
  | pos, [] => inR roots 1 8 && decide (pos = roots * 16)
  | pos, x :: rest => idOk x.1 x.2.1 x.2.2 && (decide (qkh x.1 x.2.1 x.2.2 = pos) && qie roots (qkh x.1 x.2.1 x.2.2 + qk3 x.2.1) rest)
theorem qih (roots pos : Int) : cond (inR roots 1 8) (some [D.bool (decide (pos = IntKind.wrap .i64 (roots * (16 : Int))))]) (some [D.bool false]) = some [D.bool (qie roots pos [])] := by
  unfold qie
  cases h : inR roots 1 8
  · rfl
  · simp only [inR, Bool.and_eq_true, decide_eq_true_eq] at h
    rw [qk7 (by omega) (by omega)]; rfl
theorem qh0 (k : Nat) (hk : 2000000 ≤ k) (fu : List (Nat × Nat)) (z : Bool) (l : List Cell) (roots : Int) (hl : (l.length : Int) ≤ 1048576) : ∀ (n i : Nat) (pos : Int), i ≤ l.length → l.length - i < n →
    lp (k + 4) spec_MeshOk [] fu 3 (n) (qjw pos (i : Int) z l roots) = some [.bool (qie roots pos (l.drop i))]
  | 0, i, pos, hi, hn => by omega
  | n + 1, i, pos, hi, hn => by
    rw [qhd]
    by_cases h : i < l.length
    · rw [qd5 h zz3]
      simp (disch := omega) only [qa4, nth0, nth1, nth2, nth3, bit, qcy, qcz, qda, qdf, qdg, qdh, qdi, qdj, qdk, qdl, qc0, qc1, qc2, qc3, qc4, qc5, qc6, qc7, qc8, qc9, qdb, qdc, qdd, qde, qkt, qks, qku, qip, qjf, qjh, qgi, qa7, qkn, nI, qdu, qds, Bool.not_true, Bool.not_false, Bool.and_true, Bool.true_and, Bool.and_false, Bool.false_and, Bool.or_true, Bool.true_or, Bool.or_false, Bool.false_or, beq_self_eq_true, dTT, dFF, dT, dF, bigI, big0, qio, qk7, qk8, List.length_set, List.length_replicate, Int.toNat_natCast, qcw, qcx, imax, imin, qb2, qb6, qcg, qie]
      rw [qh0 k hk fu z l roots hl n (i + 1) _ (by omega) (by omega)]
      simp only [qdv, qdw, Bool.and_assoc]
    · rw [List.drop_of_length_le (by omega)]
      simp (disch := omega) only [qa4, nth0, nth1, nth2, nth3, bit, qcy, qcz, qda, qdf, qdg, qdh, qdi, qdj, qdk, qdl, qc0, qc1, qc2, qc3, qc4, qc5, qc6, qc7, qc8, qc9, qdb, qdc, qdd, qde, qkt, qks, qku, qip, qjf, qjh, qgi, qa7, qkn, nI, qdu, qds, Bool.not_true, Bool.not_false, Bool.and_true, Bool.true_and, Bool.and_false, Bool.false_and, Bool.or_true, Bool.true_or, Bool.or_false, Bool.false_or, beq_self_eq_true, dTT, dFF, dT, dF, bigI, big0, qio, qk7, qk8, List.length_set, List.length_replicate, Int.toNat_natCast, qcw, qcx, imax, imin, qcd]
      exact qih roots pos
theorem qb4 (k : Nat) (hk : 2000000 ≤ k) (a0 : Int) (a1z : Bool) (a1 : List (Int × Int × Int)) (hl : (a1.length : Int) ≤ 1048576) : go (k + 5) spec_MeshOk [(.agg [(.int .i64 (a0)), (.arr false (a1z) (.r3 (a1)))])] = some [.bool (qie a0 0 a1)] := by
  rw [qe0]
  exact qh0 k hk _ _ a1 a0 hl _ 0 0 (by omega) (by omega)
end Go.Proofs.YtjfjniebmdafeaaDoor
end
section
namespace Go.Proofs.YtjfjniebmdafeaaDoor
open Go.Ev
def An1 : Ann := ⟨lookK keepL, lookM modeL, lookI inlL, fun _ => none, lookM giveL⟩
noncomputable def go1 (k f : Nat) (ds : List D) : Option (List D) := ev Tryd.prog An1 k f ds
noncomputable def lp1 (k f : Nat) (md : List D) (fu : List (Nat × Nat)) (tgt n : Nat) (s : St) : Option (List D) := loopAt Tryd.prog An1 k f md fu tgt n s
theorem qeo (k : Nat) (a b c : Int) : go1 (k + 1) impl_within [(.int .i64 (a)), (.int .i64 (b)), (.int .i64 (c))] =
 cond (decide (b ≤ a))
 (some [(.bool (decide (a ≤ c)))])
 (some [(.bool (false))]) := by kernel_rfl
theorem qej (k : Nat) (a : Int) : go1 (k + 1) impl_isLevel [(.int .i64 (a))] =
 (go1 k impl_within [(.int .i64 (a)), (.int .i64 (0 : Int)), (.int .i64 ((4 : Int)))]).bind fun r0 =>
 some [(.bool (bit (nth r0 0)))] := by kernel_rfl
theorem qd9 (k : Nat) (a0 a1 a2 : Int) : go1 (k + 1) impl_IdOk [(.agg [(.int .i64 (a0)), (.int .i64 (a1)), (.int .i64 (a2))])] =
 (go1 k impl_within [(.int .i64 (a0)), (.int .i64 (0 : Int)), (.int .i64 ((7 : Int)))]).bind fun r0 =>
 cond (bit (nth r0 0))
 ((go1 k impl_isLevel [(.int .i64 (a1))]).bind fun r1 =>
 cond (bit (nth r1 0))
 (cond (decide ((0 : Int) ≤ a1))
 ((go1 k impl_within [(.int .i64 (a2)), (.int .i64 (0 : Int)), (.int .i64 (IntKind.wrap .i64 (IntKind.wrap .i64 ((1 : Int) * (2 : Int) ^ shiftN .i64 a1) - (1 : Int))))]).bind fun r2 =>
 some [(.bool (bit (nth r2 0)))])
 (none))
 (some [(.bool (false))]))
 (some [(.bool (false))]) := by kernel_rfl
theorem qeg (k : Nat) (a : Int) : go1 (k + 1) impl_WidthOf [(.int .i64 (a))] =
 (go1 k impl_isLevel [(.int .i64 (a))]).bind fun r0 =>
 cond (!bit (nth r0 0))
 (some [(.int .i64 (0 : Int))])
 (cond (decide ((0 : Int) ≤ a))
 (some [(.int .i64 (Int.fdiv (16 : Int) ((2 : Int) ^ shiftN .i64 a)))])
 (none)) := by kernel_rfl
theorem qef (k : Nat) (a0 a1 a2 : Int) : go1 (k + 1) impl_StartOf [(.agg [(.int .i64 (a0)), (.int .i64 (a1)), (.int .i64 (a2))])] =
 (go1 k impl_IdOk [(.agg [(.int .i64 (a0)), (.int .i64 (a1)), (.int .i64 (a2))])]).bind fun r0 =>
 cond (!bit (nth r0 0))
 (some [(.int .i64 ((-1 : Int)))])
 ((go1 k impl_WidthOf [(.int .i64 (a1))]).bind fun r1 =>
 some [(.int .i64 (IntKind.wrap .i64 (IntKind.wrap .i64 (a0 * (16 : Int)) + IntKind.wrap .i64 (a2 * D.toInt (nth r1 0)))))]) := by kernel_rfl
theorem qei (k : Nat) (a0 a1 a2 : Int) : go1 (k + 1) impl_endOf [(.agg [(.int .i64 (a0)), (.int .i64 (a1)), (.int .i64 (a2))])] =
 (go1 k impl_StartOf [(.agg [(.int .i64 (a0)), (.int .i64 (a1)), (.int .i64 (a2))])]).bind fun r0 =>
 (go1 k impl_WidthOf [(.int .i64 (a1))]).bind fun r1 =>
 some [(.int .i64 (IntKind.wrap .i64 (D.toInt (nth r0 0) + D.toInt (nth r1 0))))] := by kernel_rfl
theorem qea (k : Nat) (a0 : Int) (a1z : Bool) (a1 : List (Int × Int × Int)) : go1 (k + 1) impl_MeshOk [(.agg [(.int .i64 (a0)), (.arr false (a1z) (.r3 (a1)))])] =
 lp1 k impl_MeshOk [] [] 3 k (qjo (0 : Int) (nI (List.length a1)) (0 : Int) a1z a1 a0) := by kernel_rfl
theorem qg5 (k n : Nat) (fu : List (Nat × Nat)) (x0 x1 x2 : Int) (z3 : Bool) (l4 : List (Int × Int × Int)) (x5 : Int) : lp1 k impl_MeshOk [] fu 3 (n + 1) (qjo x0 x1 x2 z3 l4 x5) =
 cond (decide (x2 < x1))
 (cond (decide ((0 : Int) ≤ x2) && decide (x2 < nI (List.length l4)))
 ((go1 k impl_IdOk [(.agg [(.int .i64 (Prod.fst (List.getD l4 (Int.toNat x2) zz3))), (.int .i64 (Prod.fst (Prod.snd (List.getD l4 (Int.toNat x2) zz3)))), (.int .i64 (Prod.snd (Prod.snd (List.getD l4 (Int.toNat x2) zz3))))])]).bind fun r0 =>
 cond (!bit (nth r0 0))
 (some [(.bool (false))])
 ((go1 k impl_StartOf [(.agg [(.int .i64 (Prod.fst (List.getD l4 (Int.toNat x2) zz3))), (.int .i64 (Prod.fst (Prod.snd (List.getD l4 (Int.toNat x2) zz3)))), (.int .i64 (Prod.snd (Prod.snd (List.getD l4 (Int.toNat x2) zz3))))])]).bind fun r1 =>
 cond (!decide (D.toInt (nth r1 0) = x0))
 (some [(.bool (false))])
 ((go1 k impl_endOf [(.agg [(.int .i64 (Prod.fst (List.getD l4 (Int.toNat x2) zz3))), (.int .i64 (Prod.fst (Prod.snd (List.getD l4 (Int.toNat x2) zz3)))), (.int .i64 (Prod.snd (Prod.snd (List.getD l4 (Int.toNat x2) zz3))))])]).bind fun r2 =>
 lp1 k impl_MeshOk [] fu 3 n (qjo (D.toInt (nth r2 0)) x1 (IntKind.wrap .i64 (x2 + (1 : Int))) z3 l4 x5))))
 (none))
 ((go1 k impl_within [(.int .i64 (x5)), (.int .i64 ((1 : Int))), (.int .i64 ((8 : Int)))]).bind fun r3 =>
 cond (bit (nth r3 0))
 (some [(.bool (decide (x0 = IntKind.wrap .i64 (x5 * (16 : Int)))))])
 (some [(.bool (false))])) := by kernel_rfl
end Go.Proofs.YtjfjniebmdafeaaDoor
end
section
namespace Go.Proofs.YtjfjniebmdafeaaDoor
open Go.Ev
theorem qbv (k : Nat) (hk : 2000000 ≤ k) (a : Int) (b : Int) (c : Int) : go1 (k + 1) impl_within [(.int .i64 (a)), (.int .i64 (b)), (.int .i64 (c))] = some [.bool (inR a b c)] := by
  rw [qeo]; unfold inR; cases decide (b ≤ a) <;> rfl
theorem qbp (k : Nat) (hk : 2000000 ≤ k) (a : Int) : go1 (k + 2) impl_isLevel [(.int .i64 (a))] = some [.bool (inR a 0 4)] := by
  rw [qej]
  simp (disch := omega) only [qa4, nth0, nth1, nth2, nth3, bit, qcy, qcz, qda, qdf, qdg, qdh, qdi, qdj, qdk, qdl, qc0, qc1, qc2, qc3, qc4, qc5, qc6, qc7, qc8, qc9, qdb, qdc, qdd, qde, qkt, qks, qku, qip, qjf, qjh, qgi, qa7, qkn, nI, qdu, qds, Bool.not_true, Bool.not_false, Bool.and_true, Bool.true_and, Bool.and_false, Bool.false_and, Bool.or_true, Bool.true_or, Bool.or_false, Bool.false_or, beq_self_eq_true, dTT, dFF, dT, dF, bigI, big0, qio, qk7, qk8, List.length_set, List.length_replicate, Int.toNat_natCast, qcw, qcx, imax, imin, qbv]
theorem qbf (k : Nat) (hk : 2000000 ≤ k) (a0 : Int) (a1 : Int) (a2 : Int) : go1 (k + 3) impl_IdOk [(.agg [(.int .i64 (a0)), (.int .i64 (a1)), (.int .i64 (a2))])] = some [.bool (idOk a0 a1 a2)] := by
  rw [qd9]
  simp (disch := omega) only [qa4, nth0, nth1, nth2, nth3, bit, qcy, qcz, qda, qdf, qdg, qdh, qdi, qdj, qdk, qdl, qc0, qc1, qc2, qc3, qc4, qc5, qc6, qc7, qc8, qc9, qdb, qdc, qdd, qde, qkt, qks, qku, qip, qjf, qjh, qgi, qa7, qkn, nI, qdu, qds, Bool.not_true, Bool.not_false, Bool.and_true, Bool.true_and, Bool.and_false, Bool.false_and, Bool.or_true, Bool.true_or, Bool.or_false, Bool.false_or, beq_self_eq_true, dTT, dFF, dT, dF, bigI, big0, qio, qk7, qk8, List.length_set, List.length_replicate, Int.toNat_natCast, qcw, qcx, imax, imin, qbv, qbp]
  unfold idOk
  cases h1 : inR a0 0 7 <;> cases h2 : inR a1 0 4 <;> simp only [qdu, qds, Bool.true_and, Bool.false_and, Bool.and_false]
  have := lev0 h2
  have := qja h2
  rw [pw h2, qk7 (x := pow2 a1 - 1) (by omega) (by omega)]
  rw [show decide ((0 : Int) ≤ a1) = true by simp; omega, qdu]
  have e : inR a2 0 (pow2 a1 - 1) = (decide (0 ≤ a2) && decide (a2 < pow2 a1)) := by
    unfold inR; rw [Bool.eq_iff_iff]; simp only [Bool.and_eq_true, decide_eq_true_eq]; omega
  rw [e]
theorem qbm (k : Nat) (hk : 2000000 ≤ k) (a : Int) : go1 (k + 3) impl_WidthOf [(.int .i64 (a))] = some [.int .i64 (qk3 a)] := by
  rw [qeg]
  simp (disch := omega) only [qa4, nth0, nth1, nth2, nth3, bit, qcy, qcz, qda, qdf, qdg, qdh, qdi, qdj, qdk, qdl, qc0, qc1, qc2, qc3, qc4, qc5, qc6, qc7, qc8, qc9, qdb, qdc, qdd, qde, qkt, qks, qku, qip, qjf, qjh, qgi, qa7, qkn, nI, qdu, qds, Bool.not_true, Bool.not_false, Bool.and_true, Bool.true_and, Bool.and_false, Bool.false_and, Bool.or_true, Bool.true_or, Bool.or_false, Bool.false_or, beq_self_eq_true, dTT, dFF, dT, dF, bigI, big0, qio, qk7, qk8, List.length_set, List.length_replicate, Int.toNat_natCast, qcw, qcx, imax, imin, qbp, qk3]
  cases h2 : inR a 0 4
  · simp
  · rcases lev h2 with rfl | rfl | rfl | rfl | rfl <;> simp [qk8, sh0, sh1, sh2, sh3, sh4, p20, p21, p22, p23, p24] <;> decide
theorem qbl (k : Nat) (hk : 2000000 ≤ k) (a0 : Int) (a1 : Int) (a2 : Int) : go1 (k + 4) impl_StartOf [(.agg [(.int .i64 (a0)), (.int .i64 (a1)), (.int .i64 (a2))])] = some [.int .i64 (qkh a0 a1 a2)] := by
  rw [qef]
  simp (disch := omega) only [qa4, nth0, nth1, nth2, nth3, bit, qcy, qcz, qda, qdf, qdg, qdh, qdi, qdj, qdk, qdl, qc0, qc1, qc2, qc3, qc4, qc5, qc6, qc7, qc8, qc9, qdb, qdc, qdd, qde, qkt, qks, qku, qip, qjf, qjh, qgi, qa7, qkn, nI, qdu, qds, Bool.not_true, Bool.not_false, Bool.and_true, Bool.true_and, Bool.and_false, Bool.false_and, Bool.or_true, Bool.true_or, Bool.or_false, Bool.false_or, beq_self_eq_true, dTT, dFF, dT, dF, bigI, big0, qio, qk7, qk8, List.length_set, List.length_replicate, Int.toNat_natCast, qcw, qcx, imax, imin, qbf, qbm]
  cases h : idOk a0 a1 a2
  · simp [qkh, h]
  · rw [qkk h]; rfl
theorem qbo (k : Nat) (hk : 2000000 ≤ k) (a0 : Int) (a1 : Int) (a2 : Int) : go1 (k + 5) impl_endOf [(.agg [(.int .i64 (a0)), (.int .i64 (a1)), (.int .i64 (a2))])] = some [.int .i64 (qkh a0 a1 a2 + qk3 a1)] := by
  rw [qei]
  simp (disch := omega) only [qa4, nth0, nth1, nth2, nth3, bit, qcy, qcz, qda, qdf, qdg, qdh, qdi, qdj, qdk, qdl, qc0, qc1, qc2, qc3, qc4, qc5, qc6, qc7, qc8, qc9, qdb, qdc, qdd, qde, qkt, qks, qku, qip, qjf, qjh, qgi, qa7, qkn, nI, qdu, qds, Bool.not_true, Bool.not_false, Bool.and_true, Bool.true_and, Bool.and_false, Bool.false_and, Bool.or_true, Bool.true_or, Bool.or_false, Bool.false_or, beq_self_eq_true, dTT, dFF, dT, dF, bigI, big0, qio, qk7, qk8, List.length_set, List.length_replicate, Int.toNat_natCast, qcw, qcx, imax, imin, qbl, qbm, qfr]
theorem qhx (k : Nat) (hk : 2000000 ≤ k) (fu : List (Nat × Nat)) (z : Bool) (l : List Cell) (roots : Int) (hl : (l.length : Int) ≤ 1048576) : ∀ (n i : Nat) (pos : Int), i ≤ l.length → l.length - i < n →
    lp1 (k + 5) impl_MeshOk [] fu 3 (n) (qjo pos (l.length : Int) (i : Int) z l roots) = some [.bool (qie roots pos (l.drop i))]
  | 0, i, pos, hi, hn => by omega
  | n + 1, i, pos, hi, hn => by
    rw [qg5]
    by_cases h : i < l.length
    · rw [qd5 h zz3]
      simp (disch := omega) only [qa4, nth0, nth1, nth2, nth3, bit, qcy, qcz, qda, qdf, qdg, qdh, qdi, qdj, qdk, qdl, qc0, qc1, qc2, qc3, qc4, qc5, qc6, qc7, qc8, qc9, qdb, qdc, qdd, qde, qkt, qks, qku, qip, qjf, qjh, qgi, qa7, qkn, nI, qdu, qds, Bool.not_true, Bool.not_false, Bool.and_true, Bool.true_and, Bool.and_false, Bool.false_and, Bool.or_true, Bool.true_or, Bool.or_false, Bool.false_or, beq_self_eq_true, dTT, dFF, dT, dF, bigI, big0, qio, qk7, qk8, List.length_set, List.length_replicate, Int.toNat_natCast, qcw, qcx, imax, imin, qbf, qbl, qbo, qie]
      rw [qhx k hk fu z l roots hl n (i + 1) _ (by omega) (by omega)]
      simp only [qdv, qdw, Bool.and_assoc]
    · rw [List.drop_of_length_le (by omega)]
      simp (disch := omega) only [qa4, nth0, nth1, nth2, nth3, bit, qcy, qcz, qda, qdf, qdg, qdh, qdi, qdj, qdk, qdl, qc0, qc1, qc2, qc3, qc4, qc5, qc6, qc7, qc8, qc9, qdb, qdc, qdd, qde, qkt, qks, qku, qip, qjf, qjh, qgi, qa7, qkn, nI, qdu, qds, Bool.not_true, Bool.not_false, Bool.and_true, Bool.true_and, Bool.and_false, Bool.false_and, Bool.or_true, Bool.true_or, Bool.or_false, Bool.false_or, beq_self_eq_true, dTT, dFF, dT, dF, bigI, big0, qio, qk7, qk8, List.length_set, List.length_replicate, Int.toNat_natCast, qcw, qcx, imax, imin, qbv]
      exact qih roots pos
theorem qbg (k : Nat) (hk : 2000000 ≤ k) (a0 : Int) (a1z : Bool) (a1 : List (Int × Int × Int)) (hl : (a1.length : Int) ≤ 1048576) : go1 (k + 6) impl_MeshOk [(.agg [(.int .i64 (a0)), (.arr false (a1z) (.r3 (a1)))])] = some [.bool (qie a0 0 a1)] := by
  rw [qea]
  exact qhx k hk _ _ a1 a0 hl _ 0 0 (by omega) (by omega)
end Go.Proofs.YtjfjniebmdafeaaDoor
end
section
namespace Go.Proofs.YtjfjniebmdafeaaDoor
open Go.Ev
theorem qdt {α : Type} (a : Bool) (x y : α) : cond (!a) x y = cond a y x := by cases a <;> rfl
theorem qdr {α : Type} (a b : Bool) (x y : α) : cond a (cond b x y) y = cond (a && b) x y := by cases a <;> rfl
abbrev qhp (l : List Cell) (i : Nat) : Int := (l.getD i zz3).2.1
def qaa (l : List Cell) : Prop := ∀ i, 0 ≤ qhp l i ∧ qhp l i ≤ 4
theorem qik : ∀ (l : List Cell) (r p : Int), qie r p l = true → ∀ i, 0 ≤ qhp l i ∧ qhp l i ≤ 4
  | [], r, p, h, i => by simp [qhp]
  | x :: l, r, p, h, i => by
    simp only [qie, Bool.and_eq_true] at h
    cases i with
    | zero => have := lev0 (qge h.1).2.2.1; simpa [qhp] using this
    | succ i => have := qik l r _ h.2.2 i; simpa [qhp] using this
def qkv (l : List Cell) : Nat → Nat → Int
  | 0, _ => -1
  | n + 1, i => if 1 < qhp l i - qhp l (i + 1) ∨ qhp l i - qhp l (i + 1) < -1 then (i : Int) else qkv l n (i + 1)
def unb (l : List Cell) : Int := qkv l (l.length - 1) 0
theorem qh4 (k : Nat) (hk : 2000000 ≤ k) (fu : List (Nat × Nat)) (z : Bool) (l : List Cell) (r : Int) (hl : (l.length : Int) ≤ 1048576) (hv : qaa l) : ∀ (n i : Nat), i ≤ l.length → l.length - 1 - i < n →
    lp k spec_l05First [] fu 2 (n) (qj1 (i : Int) z l r) = some [.int .i64 (qkv l (l.length - 1 - i) i)]
  | 0, i, hi, hn => by omega
  | n + 1, i, hi, hn => by
    rw [qhi]
    by_cases h : i + 1 < l.length
    · have e := qh4 k hk fu z l r hl hv n (i + 1) (by omega) (by omega)
      have h1 := hv i; have h2 := hv (i + 1)
      simp only [qhp] at h1 h2
      simp (disch := omega) only [qa4, nth0, nth1, nth2, nth3, bit, qcy, qcz, qda, qdf, qdg, qdh, qdi, qdj, qdk, qdl, qc0, qc1, qc2, qc3, qc4, qc5, qc6, qc7, qc8, qc9, qdb, qdc, qdd, qde, qkt, qks, qku, qip, qjf, qjh, qgi, qa7, qkn, nI, qdu, qds, Bool.not_true, Bool.not_false, Bool.and_true, Bool.true_and, Bool.and_false, Bool.false_and, Bool.or_true, Bool.true_or, Bool.or_false, Bool.false_or, beq_self_eq_true, dTT, dFF, dT, dF, bigI, big0, qio, qk7, qk8, List.length_set, List.length_replicate, Int.toNat_natCast, qcw, qcx, imax, imin, e]
      rw [show l.length - 1 - i = (l.length - 1 - (i + 1)) + 1 by omega, qkv]
      simp only [qhp]
      by_cases g : 1 < (l.getD i zz3).2.1 - (l.getD (i + 1) zz3).2.1
      · simp (disch := omega) only [qa4, nth0, nth1, nth2, nth3, bit, qcy, qcz, qda, qdf, qdg, qdh, qdi, qdj, qdk, qdl, qc0, qc1, qc2, qc3, qc4, qc5, qc6, qc7, qc8, qc9, qdb, qdc, qdd, qde, qkt, qks, qku, qip, qjf, qjh, qgi, qa7, qkn, nI, qdu, qds, Bool.not_true, Bool.not_false, Bool.and_true, Bool.true_and, Bool.and_false, Bool.false_and, Bool.or_true, Bool.true_or, Bool.or_false, Bool.false_or, beq_self_eq_true, dTT, dFF, dT, dF, bigI, big0, qio, qk7, qk8, List.length_set, List.length_replicate, Int.toNat_natCast, qcw, qcx, imax, imin]; rw [if_pos (Or.inl g)]
      · by_cases g2 : (l.getD i zz3).2.1 - (l.getD (i + 1) zz3).2.1 < -1
        · simp (disch := omega) only [qa4, nth0, nth1, nth2, nth3, bit, qcy, qcz, qda, qdf, qdg, qdh, qdi, qdj, qdk, qdl, qc0, qc1, qc2, qc3, qc4, qc5, qc6, qc7, qc8, qc9, qdb, qdc, qdd, qde, qkt, qks, qku, qip, qjf, qjh, qgi, qa7, qkn, nI, qdu, qds, Bool.not_true, Bool.not_false, Bool.and_true, Bool.true_and, Bool.and_false, Bool.false_and, Bool.or_true, Bool.true_or, Bool.or_false, Bool.false_or, beq_self_eq_true, dTT, dFF, dT, dF, bigI, big0, qio, qk7, qk8, List.length_set, List.length_replicate, Int.toNat_natCast, qcw, qcx, imax, imin]; rw [if_pos (Or.inr g2)]
        · simp (disch := omega) only [qa4, nth0, nth1, nth2, nth3, bit, qcy, qcz, qda, qdf, qdg, qdh, qdi, qdj, qdk, qdl, qc0, qc1, qc2, qc3, qc4, qc5, qc6, qc7, qc8, qc9, qdb, qdc, qdd, qde, qkt, qks, qku, qip, qjf, qjh, qgi, qa7, qkn, nI, qdu, qds, Bool.not_true, Bool.not_false, Bool.and_true, Bool.true_and, Bool.and_false, Bool.false_and, Bool.or_true, Bool.true_or, Bool.or_false, Bool.false_or, beq_self_eq_true, dTT, dFF, dT, dF, bigI, big0, qio, qk7, qk8, List.length_set, List.length_replicate, Int.toNat_natCast, qcw, qcx, imax, imin]; rw [if_neg (not_or.2 ⟨g, g2⟩)]
    · simp (disch := omega) only [qa4, nth0, nth1, nth2, nth3, bit, qcy, qcz, qda, qdf, qdg, qdh, qdi, qdj, qdk, qdl, qc0, qc1, qc2, qc3, qc4, qc5, qc6, qc7, qc8, qc9, qdb, qdc, qdd, qde, qkt, qks, qku, qip, qjf, qjh, qgi, qa7, qkn, nI, qdu, qds, Bool.not_true, Bool.not_false, Bool.and_true, Bool.true_and, Bool.and_false, Bool.false_and, Bool.or_true, Bool.true_or, Bool.or_false, Bool.false_or, beq_self_eq_true, dTT, dFF, dT, dF, bigI, big0, qio, qk7, qk8, List.length_set, List.length_replicate, Int.toNat_natCast, qcw, qcx, imax, imin]
      rw [show l.length - 1 - i = 0 by omega]; rfl
theorem qck (k : Nat) (hk : 2000000 ≤ k) (a0 : Int) (a1z : Bool) (a1 : List (Int × Int × Int)) (hl : (a1.length : Int) ≤ 1048576) (hv : qaa a1) : go (k + 1) spec_l05First [(.agg [(.int .i64 (a0)), (.arr false (a1z) (.r3 (a1)))])] = some [.int .i64 (unb a1)] := by
  rw [qff]
  exact qh4 k hk [] a1z a1 a0 hl hv _ 0 (by omega) (by omega)
def qaz (r : Int) (l : List Cell) : Bool := qie r 0 l && decide (unb l < 0)
theorem qb3 (k : Nat) (hk : 2000000 ≤ k) (a0 : Int) (a1z : Bool) (a1 : List (Int × Int × Int)) (hl : (a1.length : Int) ≤ 1048576) : go (k + 6) spec_IsBalanced [(.agg [(.int .i64 (a0)), (.arr false (a1z) (.r3 (a1)))])] = some [.bool (qaz a0 a1)] := by
  rw [qez]
  simp (disch := omega) only [qa4, nth0, nth1, nth2, nth3, bit, qcy, qcz, qda, qdf, qdg, qdh, qdi, qdj, qdk, qdl, qc0, qc1, qc2, qc3, qc4, qc5, qc6, qc7, qc8, qc9, qdb, qdc, qdd, qde, qkt, qks, qku, qip, qjf, qjh, qgi, qa7, qkn, nI, qdu, qds, Bool.not_true, Bool.not_false, Bool.and_true, Bool.true_and, Bool.and_false, Bool.false_and, Bool.or_true, Bool.true_or, Bool.or_false, Bool.false_or, beq_self_eq_true, dTT, dFF, dT, dF, bigI, big0, qio, qk7, qk8, List.length_set, List.length_replicate, Int.toNat_natCast, qcw, qcx, imax, imin, qb4]
  unfold qaz
  cases h : qie a0 0 a1
  · rfl
  · have hv : qaa a1 := qik _ _ _ h
    simp (disch := omega) only [qa4, nth0, nth1, nth2, nth3, bit, qcy, qcz, qda, qdf, qdg, qdh, qdi, qdj, qdk, qdl, qc0, qc1, qc2, qc3, qc4, qc5, qc6, qc7, qc8, qc9, qdb, qdc, qdd, qde, qkt, qks, qku, qip, qjf, qjh, qgi, qa7, qkn, nI, qdu, qds, Bool.not_true, Bool.not_false, Bool.and_true, Bool.true_and, Bool.and_false, Bool.false_and, Bool.or_true, Bool.true_or, Bool.or_false, Bool.false_or, beq_self_eq_true, dTT, dFF, dT, dF, bigI, big0, qio, qk7, qk8, List.length_set, List.length_replicate, Int.toNat_natCast, qcw, qcx, imax, imin, qck k hk]
    rw [qck _ (by omega) _ _ _ hl hv]; simp (disch := omega) only [qa4, nth0, nth1, nth2, nth3, bit, qcy, qcz, qda, qdf, qdg, qdh, qdi, qdj, qdk, qdl, qc0, qc1, qc2, qc3, qc4, qc5, qc6, qc7, qc8, qc9, qdb, qdc, qdd, qde, qkt, qks, qku, qip, qjf, qjh, qgi, qa7, qkn, nI, qdu, qds, Bool.not_true, Bool.not_false, Bool.and_true, Bool.true_and, Bool.and_false, Bool.false_and, Bool.or_true, Bool.true_or, Bool.or_false, Bool.false_or, beq_self_eq_true, dTT, dFF, dT, dF, bigI, big0, qio, qk7, qk8, List.length_set, List.length_replicate, Int.toNat_natCast, qcw, qcx, imax, imin]
def isum : List Int → Int
  | [] => 0
  | x :: l => x + isum l
theorem qgn {B : Int} : ∀ (l : List Int), (∀ x ∈ l, 0 ≤ x ∧ x ≤ B) → 0 ≤ isum l ∧ isum l ≤ B * l.length
  | [], h => by simp [isum]
  | x :: l, h => by
    have := qgn l fun y hy => h y (by simp [hy])
    have h2 := h x (by simp)
    simp only [isum, List.length_cons, Int.natCast_add, Int.natCast_one, Int.mul_add, Int.mul_one]; omega
theorem qgm {B : Int} (hB : 0 ≤ B) : ∀ (l : List Int) (i : Nat), (∀ x ∈ l, 0 ≤ x ∧ x ≤ B) → 0 ≤ isum (l.drop i) ∧ isum (l.drop i) ≤ isum l
  | [], i, h => by simp [isum]
  | x :: l, 0, h => by have := qgn (x :: l) h; simp only [List.drop_zero]; omega
  | x :: l, i + 1, h => by
    have := qgm hB l i fun y hy => h y (by simp [hy])
    have h2 := h x (by simp)
    simp only [isum, List.drop_succ_cons]; omega
theorem qh7 (k : Nat) (hk : 2000000 ≤ k) (fu : List (Nat × Nat)) (z : Bool) (l : List Int) (hl : (l.length : Int) ≤ 1048576) (hb : ∀ x ∈ l, 0 ≤ x ∧ x ≤ 1000000000000) : ∀ (n i : Nat) (s : Int), i ≤ l.length → l.length - i < n → s + isum (l.drop i) = isum l → 0 ≤ s →
    lp k spec_l07Sum [] fu 3 (n) (qj4 s (i : Int) z l) = some [.int .i64 (isum l)]
  | 0, i, s, hi, hn, hs, h0 => by omega
  | n + 1, i, s, hi, hn, hs, h0 => by
    rw [qhl]
    by_cases h : i < l.length
    · rw [qd5 h 0] at hs
      simp only [isum] at hs
      have h1 := qgn l hb
      have h2 := qgm (by omega) l (i + 1) hb
      have h3 := hb _ (qf8 h 0)
      simp (disch := omega) only [qa4, nth0, nth1, nth2, nth3, bit, qcy, qcz, qda, qdf, qdg, qdh, qdi, qdj, qdk, qdl, qc0, qc1, qc2, qc3, qc4, qc5, qc6, qc7, qc8, qc9, qdb, qdc, qdd, qde, qkt, qks, qku, qip, qjf, qjh, qgi, qa7, qkn, nI, qdu, qds, Bool.not_true, Bool.not_false, Bool.and_true, Bool.true_and, Bool.and_false, Bool.false_and, Bool.or_true, Bool.true_or, Bool.or_false, Bool.false_or, beq_self_eq_true, dTT, dFF, dT, dF, bigI, big0, qio, qk7, qk8, List.length_set, List.length_replicate, Int.toNat_natCast, qcw, qcx, imax, imin]
      exact qh7 k hk fu z l hl hb n (i + 1) _ (by omega) (by omega) (by omega) (by omega)
    · rw [List.drop_of_length_le (by omega)] at hs
      simp only [isum] at hs
      simp (disch := omega) only [qa4, nth0, nth1, nth2, nth3, bit, qcy, qcz, qda, qdf, qdg, qdh, qdi, qdj, qdk, qdl, qc0, qc1, qc2, qc3, qc4, qc5, qc6, qc7, qc8, qc9, qdb, qdc, qdd, qde, qkt, qks, qku, qip, qjf, qjh, qgi, qa7, qkn, nI, qdu, qds, Bool.not_true, Bool.not_false, Bool.and_true, Bool.true_and, Bool.and_false, Bool.false_and, Bool.or_true, Bool.true_or, Bool.or_false, Bool.false_or, beq_self_eq_true, dTT, dFF, dT, dF, bigI, big0, qio, qk7, qk8, List.length_set, List.length_replicate, Int.toNat_natCast, qcw, qcx, imax, imin]
      rw [show s = isum l by omega]
theorem qcp (k : Nat) (hk : 2000000 ≤ k) (az : Bool) (a : List Int) (hl : (a.length : Int) ≤ 1048576) (hb : ∀ x ∈ a, 0 ≤ x ∧ x ≤ 1000000000000) : go (k + 1) spec_l07Sum [(.arr false (az) (.ints .i64 (a)))] = some [.int .i64 (isum a)] := by
  rw [qfk]
  exact qh7 k hk [] az a hl hb _ 0 0 (by omega) (by omega) (by simp) (by omega)
def qh9 : List Int → List Int → Bool
  | m :: ms, t :: ts => inR m 0 10000000 && (inR t 0 (1000 * m) && qh9 ms ts)
  | _, _ => true
theorem qib : ∀ (ms ts : List Int), ms.length = ts.length → qh9 ms ts = true → (∀ x ∈ ms, 0 ≤ x ∧ x ≤ 10000000) ∧ (∀ x ∈ ts, 0 ≤ x ∧ x ≤ 10000000000)
  | [], ts, hl, h => by cases ts <;> simp_all
  | m :: ms, [], hl, h => by simp at hl
  | m :: ms, t :: ts, hl, h => by
    simp only [qh9, Bool.and_eq_true, qgf] at h
    have := qib ms ts (by simpa using hl) h.2.2
    refine ⟨fun x hx => ?_, fun x hx => ?_⟩
    · rcases List.mem_cons.1 hx with rfl | hx
      · exact h.1
      · exact this.1 x hx
    · rcases List.mem_cons.1 hx with rfl | hx
      · omega
      · exact this.2 x hx
theorem qia : ∀ (ms ts : List Int), ms.length = ts.length → qh9 ms ts = true → ∀ i, 0 ≤ ms.getD i 0 ∧ ms.getD i 0 ≤ 10000000 ∧ 0 ≤ ts.getD i 0 ∧ ts.getD i 0 ≤ 1000 * ms.getD i 0
  | [], ts, hl, h, i => by cases ts <;> simp_all
  | m :: ms, [], hl, h, i => by simp at hl
  | m :: ms, t :: ts, hl, h, i => by
    simp only [qh9, Bool.and_eq_true, qgf] at h
    cases i with
    | zero => simp; omega
    | succ i => have := qia ms ts (by simpa using hl) h.2.2 i; simpa using this
def qa1 : List Int → Bool
  | [] => true
  | b :: l => inR b 0 1000000 && qa1 l
def stOk (r : Int) (l : List Cell) (m t b : List Int) : Bool :=
  qaz r l && (decide (m.length = l.length) && (decide (t.length = l.length) && (decide ((b.length : Int) = r) && (qh9 m t && (qa1 b && decide (isum m ≤ 10000000))))))
theorem qh2 (k : Nat) (hk : 2000000 ≤ k) (fu : List (Nat × Nat)) (r : Int) (z1 z2 z3 z4 : Bool) (l : List Cell) (m t b : List Int) (hm : (m.length : Int) ≤ 1048576) (hb : (b.length : Int) ≤ 1048576) (hx : ∀ x ∈ m, 0 ≤ x ∧ x ≤ 10000000) : ∀ (n i : Nat), i ≤ b.length → b.length - i < n →
    lp (k + 6) spec_StateOk [] fu 9 (n) (qjy (i : Int) z1 l z2 m z3 t z4 b r) = some [.bool (qa1 (b.drop i) && decide (isum m ≤ 10000000))]
  | 0, i, hi, hn => by omega
  | n + 1, i, hi, hn => by
    rw [qhf]
    by_cases h : i < b.length
    · rw [qd5 h 0]
      have e := qh2 k hk fu r z1 z2 z3 z4 l m t b hm hb hx n (i + 1) (by omega) (by omega)
      simp (disch := omega) only [qa4, nth0, nth1, nth2, nth3, bit, qcy, qcz, qda, qdf, qdg, qdh, qdi, qdj, qdk, qdl, qc0, qc1, qc2, qc3, qc4, qc5, qc6, qc7, qc8, qc9, qdb, qdc, qdd, qde, qkt, qks, qku, qip, qjf, qjh, qgi, qa7, qkn, nI, qdu, qds, Bool.not_true, Bool.not_false, Bool.and_true, Bool.true_and, Bool.and_false, Bool.false_and, Bool.or_true, Bool.true_or, Bool.or_false, Bool.false_or, beq_self_eq_true, dTT, dFF, dT, dF, bigI, big0, qio, qk7, qk8, List.length_set, List.length_replicate, Int.toNat_natCast, qcw, qcx, imax, imin, qcd, qa1, e, qdv, Bool.and_assoc]
    · rw [List.drop_of_length_le (by omega)]
      have hx' : ∀ x ∈ m, 0 ≤ x ∧ x ≤ 1000000000000 := fun x hh => by have := hx x hh; omega
      rw [show decide ((i : Int) < nI b.length) = false by apply dF; simp only [nI]; omega, qds, qcp _ (by omega) _ _ hm hx']
      simp (disch := omega) only [qa4, nth0, nth1, nth2, nth3, bit, qcy, qcz, qda, qdf, qdg, qdh, qdi, qdj, qdk, qdl, qc0, qc1, qc2, qc3, qc4, qc5, qc6, qc7, qc8, qc9, qdb, qdc, qdd, qde, qkt, qks, qku, qip, qjf, qjh, qgi, qa7, qkn, nI, qdu, qds, Bool.not_true, Bool.not_false, Bool.and_true, Bool.true_and, Bool.and_false, Bool.false_and, Bool.or_true, Bool.true_or, Bool.or_false, Bool.false_or, beq_self_eq_true, dTT, dFF, dT, dF, bigI, big0, qio, qk7, qk8, List.length_set, List.length_replicate, Int.toNat_natCast, qcw, qcx, imax, imin, qa1]
theorem qh1 (k : Nat) (hk : 2000000 ≤ k) (fu : List (Nat × Nat)) (r : Int) (z1 z2 z3 z4 : Bool) (l : List Cell) (m t b : List Int) (hm : (m.length : Int) ≤ 1048576) (ht : t.length = m.length) : ∀ (n i : Nat), i ≤ m.length → m.length - i < n →
    lp (k + 6) spec_StateOk [] fu 4 (n) (qjx (i : Int) z1 l z2 m z3 t z4 b r) = cond (qh9 (m.drop i) (t.drop i)) (lp (k + 6) spec_StateOk [] fu 9 (k + 6) (qjy 0 z1 l z2 m z3 t z4 b r)) (some [.bool false])
  | 0, i, hi, hn => by omega
  | n + 1, i, hi, hn => by
    rw [qhe]
    by_cases h : i < m.length
    · rw [qd5 h 0, qd5 (l := t) (by omega : i < t.length) 0]
      have e := qh1 k hk fu r z1 z2 z3 z4 l m t b hm ht n (i + 1) (by omega) (by omega)
      by_cases h1 : inR (m.getD i 0) 0 10000000 = true
      · have h2 := qgf.1 h1
        simp (disch := omega) only [qa4, nth0, nth1, nth2, nth3, bit, qcy, qcz, qda, qdf, qdg, qdh, qdi, qdj, qdk, qdl, qc0, qc1, qc2, qc3, qc4, qc5, qc6, qc7, qc8, qc9, qdb, qdc, qdd, qde, qkt, qks, qku, qip, qjf, qjh, qgi, qa7, qkn, nI, qdu, qds, Bool.not_true, Bool.not_false, Bool.and_true, Bool.true_and, Bool.and_false, Bool.false_and, Bool.or_true, Bool.true_or, Bool.or_false, Bool.false_or, beq_self_eq_true, dTT, dFF, dT, dF, bigI, big0, qio, qk7, qk8, List.length_set, List.length_replicate, Int.toNat_natCast, qcw, qcx, imax, imin, qcd, qh9, e, h1, qdt, qdr]
      · have h1 : inR (m.getD i 0) 0 10000000 = false := by simpa using h1
        simp (disch := omega) only [qa4, nth0, nth1, nth2, nth3, bit, qcy, qcz, qda, qdf, qdg, qdh, qdi, qdj, qdk, qdl, qc0, qc1, qc2, qc3, qc4, qc5, qc6, qc7, qc8, qc9, qdb, qdc, qdd, qde, qkt, qks, qku, qip, qjf, qjh, qgi, qa7, qkn, nI, qdu, qds, Bool.not_true, Bool.not_false, Bool.and_true, Bool.true_and, Bool.and_false, Bool.false_and, Bool.or_true, Bool.true_or, Bool.or_false, Bool.false_or, beq_self_eq_true, dTT, dFF, dT, dF, bigI, big0, qio, qk7, qk8, List.length_set, List.length_replicate, Int.toNat_natCast, qcw, qcx, imax, imin, qcd, qh9, h1]
    · rw [List.drop_of_length_le (by omega), List.drop_of_length_le (by omega)]
      simp (disch := omega) only [qa4, nth0, nth1, nth2, nth3, bit, qcy, qcz, qda, qdf, qdg, qdh, qdi, qdj, qdk, qdl, qc0, qc1, qc2, qc3, qc4, qc5, qc6, qc7, qc8, qc9, qdb, qdc, qdd, qde, qkt, qks, qku, qip, qjf, qjh, qgi, qa7, qkn, nI, qdu, qds, Bool.not_true, Bool.not_false, Bool.and_true, Bool.true_and, Bool.and_false, Bool.false_and, Bool.or_true, Bool.true_or, Bool.or_false, Bool.false_or, beq_self_eq_true, dTT, dFF, dT, dF, bigI, big0, qio, qk7, qk8, List.length_set, List.length_replicate, Int.toNat_natCast, qcw, qcx, imax, imin, qh9]
theorem qb7 (k : Nat) (hk : 2000000 ≤ k) (a0 : Int) (a1z : Bool) (a1 : List (Int × Int × Int)) (a2z : Bool) (a2 : List Int) (a3z : Bool) (a3 : List Int) (a4z : Bool) (a4 : List Int) (hl : (a1.length : Int) ≤ 1048576) (hb : (a4.length : Int) ≤ 1048576) : go (k + 7) spec_StateOk [(.agg [(.int .i64 (a0)), (.arr false (a1z) (.r3 (a1))), (.arr false (a2z) (.ints .i64 (a2))), (.arr false (a3z) (.ints .i64 (a3))), (.arr false (a4z) (.ints .i64 (a4)))])] = some [.bool (stOk a0 a1 a2 a3 a4)] := by
  rw [qe3]
  simp (disch := omega) only [qa4, nth0, nth1, nth2, nth3, bit, qcy, qcz, qda, qdf, qdg, qdh, qdi, qdj, qdk, qdl, qc0, qc1, qc2, qc3, qc4, qc5, qc6, qc7, qc8, qc9, qdb, qdc, qdd, qde, qkt, qks, qku, qip, qjf, qjh, qgi, qa7, qkn, nI, qdu, qds, Bool.not_true, Bool.not_false, Bool.and_true, Bool.true_and, Bool.and_false, Bool.false_and, Bool.or_true, Bool.true_or, Bool.or_false, Bool.false_or, beq_self_eq_true, dTT, dFF, dT, dF, bigI, big0, qio, qk7, qk8, List.length_set, List.length_replicate, Int.toNat_natCast, qcw, qcx, imax, imin, qb3]
  unfold stOk
  cases qaz a0 a1
  · rfl
  by_cases h1 : a2.length = a1.length
  case neg => simp (disch := omega) only [qa4, nth0, nth1, nth2, nth3, bit, qcy, qcz, qda, qdf, qdg, qdh, qdi, qdj, qdk, qdl, qc0, qc1, qc2, qc3, qc4, qc5, qc6, qc7, qc8, qc9, qdb, qdc, qdd, qde, qkt, qks, qku, qip, qjf, qjh, qgi, qa7, qkn, nI, qdu, qds, Bool.not_true, Bool.not_false, Bool.and_true, Bool.true_and, Bool.and_false, Bool.false_and, Bool.or_true, Bool.true_or, Bool.or_false, Bool.false_or, beq_self_eq_true, dTT, dFF, dT, dF, bigI, big0, qio, qk7, qk8, List.length_set, List.length_replicate, Int.toNat_natCast, qcw, qcx, imax, imin]
  by_cases h2 : a3.length = a1.length
  case neg => simp (disch := omega) only [qa4, nth0, nth1, nth2, nth3, bit, qcy, qcz, qda, qdf, qdg, qdh, qdi, qdj, qdk, qdl, qc0, qc1, qc2, qc3, qc4, qc5, qc6, qc7, qc8, qc9, qdb, qdc, qdd, qde, qkt, qks, qku, qip, qjf, qjh, qgi, qa7, qkn, nI, qdu, qds, Bool.not_true, Bool.not_false, Bool.and_true, Bool.true_and, Bool.and_false, Bool.false_and, Bool.or_true, Bool.true_or, Bool.or_false, Bool.false_or, beq_self_eq_true, dTT, dFF, dT, dF, bigI, big0, qio, qk7, qk8, List.length_set, List.length_replicate, Int.toNat_natCast, qcw, qcx, imax, imin]
  by_cases h3 : (a4.length : Int) = a0
  case neg => simp (disch := omega) only [qa4, nth0, nth1, nth2, nth3, bit, qcy, qcz, qda, qdf, qdg, qdh, qdi, qdj, qdk, qdl, qc0, qc1, qc2, qc3, qc4, qc5, qc6, qc7, qc8, qc9, qdb, qdc, qdd, qde, qkt, qks, qku, qip, qjf, qjh, qgi, qa7, qkn, nI, qdu, qds, Bool.not_true, Bool.not_false, Bool.and_true, Bool.true_and, Bool.and_false, Bool.false_and, Bool.or_true, Bool.true_or, Bool.or_false, Bool.false_or, beq_self_eq_true, dTT, dFF, dT, dF, bigI, big0, qio, qk7, qk8, List.length_set, List.length_replicate, Int.toNat_natCast, qcw, qcx, imax, imin]
  simp (disch := omega) only [qa4, nth0, nth1, nth2, nth3, bit, qcy, qcz, qda, qdf, qdg, qdh, qdi, qdj, qdk, qdl, qc0, qc1, qc2, qc3, qc4, qc5, qc6, qc7, qc8, qc9, qdb, qdc, qdd, qde, qkt, qks, qku, qip, qjf, qjh, qgi, qa7, qkn, nI, qdu, qds, Bool.not_true, Bool.not_false, Bool.and_true, Bool.true_and, Bool.and_false, Bool.false_and, Bool.or_true, Bool.true_or, Bool.or_false, Bool.false_or, beq_self_eq_true, dTT, dFF, dT, dF, bigI, big0, qio, qk7, qk8, List.length_set, List.length_replicate, Int.toNat_natCast, qcw, qcx, imax, imin]
  refine Eq.trans (qh1 k hk [] a0 a1z a2z a3z a4z a1 a2 a3 a4 (by omega) (by omega) _ 0 (by omega) (by omega)) ?_
  simp only [List.drop_zero]
  cases h4 : qh9 a2 a3
  · rfl
  · have hx := (qib a2 a3 (by omega) h4).1
    have e := qh2 k hk [] a0 a1z a2z a3z a4z a1 a2 a3 a4 (by omega) hb hx (k + 6) 0 (by omega) (by omega)
    simp only [List.drop_zero] at e
    simp only [qdu, Bool.true_and, dT (h1), dT (h2), dT (h3), decide_true]
    exact e
end Go.Proofs.YtjfjniebmdafeaaDoor
end
section
namespace Go.Proofs.YtjfjniebmdafeaaDoor
open Go.Ev
theorem qk4 {l : Int} (h : inR l 0 4 = true) : 1 ≤ qk3 l ∧ qk3 l ≤ 16 := by
  rcases lev h with rfl | rfl | rfl | rfl | rfl <;> decide
theorem qk1 {x : Cell} (h : idOk x.1 x.2.1 x.2.2 = true) : qkh x.1 x.2.1 x.2.2 = x.1 * 16 + x.2.2 * qk3 x.2.1 ∧ 0 ≤ x.2.2 * qk3 x.2.1 ∧ 1 ≤ qk3 x.2.1 := by
  have := qge h
  exact ⟨by simp [qkh, h], (iw h).1, (qk4 this.2.2.1).1⟩
theorem qii : ∀ (l : List Cell) (r p : Int), qie r p l = true → 1 ≤ r ∧ r ≤ 8 ∧ p + l.length ≤ 16 * r ∧ (∀ i, i < l.length → 0 ≤ (l.getD i zz3).1 ∧ (l.getD i zz3).1 < r ∧ idOk (l.getD i zz3).1 (l.getD i zz3).2.1 (l.getD i zz3).2.2 = true) ∧ (l = [] → p = 16 * r)
  | [], r, p, h => by
    simp only [qie, Bool.and_eq_true, qgf, decide_eq_true_eq] at h
    simp; omega
  | x :: l, r, p, h => by
    simp only [qie, Bool.and_eq_true, decide_eq_true_eq] at h
    obtain ⟨h1, h2, h3⟩ := h
    have w := qk1 h1
    have ih := qii l r _ h3
    have ds := qge h1
    refine ⟨ih.1, ih.2.1, by simp only [List.length_cons]; omega, fun i hi => ?_, by simp⟩
    cases i with
    | zero => simp only [List.getD_cons_zero]; refine ⟨by omega, by omega, h1⟩
    | succ i => simp only [List.getD_cons_succ]; exact ih.2.2.2.1 i (by simpa using hi)
theorem qij {l : List Cell} {r : Int} (h : qie r 0 l = true) : 1 ≤ l.length ∧ l.length ≤ 128 := by
  have f := qii l r 0 h
  cases l with
  | nil => have := f.2.2.2.2 rfl; omega
  | cons x l => simp only [List.length_cons] at f ⊢; omega
structure StF (r : Int) (l : List Cell) (m t b : List Int) : Prop where
  mesh : qie r 0 l = true
  bal : unb l < 0
  ml : m.length = l.length
  tl : t.length = l.length
  bl : (b.length : Int) = r
  mt : qh9 m t = true
  bed : qa1 b = true
  sum : isum m ≤ 10000000
theorem stF {r : Int} {l : List Cell} {m t b : List Int} : stOk r l m t b = true ↔ StF r l m t b := by
  unfold stOk qaz
  simp only [Bool.and_eq_true, decide_eq_true_eq]
  exact ⟨fun h => ⟨h.1.1, h.1.2, h.2.1, h.2.2.1, h.2.2.2.1, h.2.2.2.2.1, h.2.2.2.2.2.1, h.2.2.2.2.2.2⟩, fun h => ⟨⟨h.mesh, h.bal⟩, h.ml, h.tl, h.bl, h.mt, h.bed, h.sum⟩⟩
section
variable {r : Int} {l : List Cell} {m t b : List Int}
theorem StF.len (F : StF r l m t b) : 1 ≤ l.length ∧ l.length ≤ 128 := qij F.mesh
theorem StF.rr (F : StF r l m t b) : 1 ≤ r ∧ r ≤ 8 := ⟨(qii l r 0 F.mesh).1, (qii l r 0 F.mesh).2.1⟩
theorem StF.lev (F : StF r l m t b) (i : Nat) : inR (l.getD i zz3).2.1 0 4 = true := by
  have := qik l r 0 F.mesh i
  simp only [qhp] at this
  rw [qgf]; exact this
theorem StF.at (F : StF r l m t b) (i : Nat) : 0 ≤ m.getD i 0 ∧ m.getD i 0 ≤ 10000000 ∧ 0 ≤ t.getD i 0 ∧ t.getD i 0 ≤ 1000 * m.getD i 0 := qia m t (by rw [F.ml, F.tl]) F.mt i
theorem StF.mmem (F : StF r l m t b) : ∀ x ∈ m, 0 ≤ x ∧ x ≤ 1000000000000 := fun x hx => by have := (qib m t (by rw [F.ml, F.tl]) F.mt).1 x hx; omega
theorem StF.tmem (F : StF r l m t b) : ∀ x ∈ t, 0 ≤ x ∧ x ≤ 1000000000000 := fun x hx => by have := (qib m t (by rw [F.ml, F.tl]) F.mt).2 x hx; omega
end
end Go.Proofs.YtjfjniebmdafeaaDoor
end
section
namespace Go.Proofs.YtjfjniebmdafeaaDoor
open Go.RowKit Go.Lib Go.Ev Go.Shelf Go.Sort
theorem qit : ∀ f g, An1.ext f = some g → ∀ ds rs, g ds = some rs → Contract Tryd.prog f (An1.mode f) ds rs := fun f g h => by cases h
theorem qg1 (r : Int) (z : Bool) (l : List Cell) (hl : (l.length : Int) ≤ 1048576) : Contract Tryd.prog 91 [] [.agg [.int .i64 r, .arr false z (.r3 l)]] [.bool (qie r 0 l)] := by
  have e : ev Tryd.prog An1 (2000000 + 6) 91 [.agg [.int .i64 r, .arr false z (.r3 l)]] = some [.bool (qie r 0 l)] := qbg 2000000 (by omega) r z l hl
  have h := ev_contract good qit e
  exact h
theorem qa6 {P : Program} {F : Nat} {ds : List D} {b : Bool} {w : World} {args : Array Value} {FF : Feet} (h : Contract P F [] ds [.bool b]) (hk : Kept w) (hr : RepDs w ds args.toList FF) (hs : Sep FF) (hn : ∀ x off, ¬ ownOf FF x off) : Calls P F args w fun e w' => e = .returned (.bool b) ∧ RowKit.Below w.heap.size w w' := by
  obtain ⟨fn, _, _, hc⟩ := h
  refine (hc w args FF hk (fun x _ off => hn x.1 off) hr hs).mono ?_
  rintro e w' ⟨outs, F', rfl, hl, hrep, _, hfr, _⟩
  have hm : ∀ (vs : List Value), muts ([] : List Bool) vs = [] := by
    intro vs
    induction vs with
    | nil => rfl
    | cons v vs ih => simp [muts, ih]
  rw [hm, List.append_nil] at hrep
  simp only [RepDs, RepD] at hrep
  obtain ⟨u, us, F1, F2, rfl, _, ⟨rfl, _⟩, rfl, _⟩ := hrep
  exact ⟨rfl, Fr.below (hfr.mono fun b off _ h => (hn b off h).elim)⟩
theorem Hid.mk' {p : Prop} (h : p) : Hid p := h
set_option maxHeartbeats 1000000 in
theorem qf4 (r : Int) (a : Option Addr) (n c : Nat) (w : World) (hM : ∀ W, RowKit.Below w.heap.size w W → Calls Tryd.prog 91 #[.agg #[.int .i64 r, .slice a n c]] W fun e w' => e = .returned (.bool false) ∧ RowKit.Below W.heap.size W w') :
    Calls Tryd.prog 49 #[.agg #[.int .i64 r, .slice a n c]] w fun e w' => e = .returned (.string ⟨#[]⟩) ∧ RowKit.Below w.heap.size w w' := by
  have b0 : RowKit.Below w.heap.size w (w.alloc (.cells #[.int .i64 r, .slice a n c] 59)) := (RowKit.Below.refl _ w).alloc (Nat.le_refl _) _
  have hM' := hM _ b0
  clear hM
  go_enter Tryd.func49, Tryd.ntmps49
  go_wp2_with (go_at_call 91; refine hM'.mono ?_)
  rintro e W1 ⟨rfl, b1⟩
  go_wp2
  go_ret
  exact ⟨rfl, b0.trans (b1.mono b0.size)⟩
theorem qhn {l : List Cell} {b : Addr} {w W wr : World} {N k : Nat}
    (hc : ∀ i, i < l.length → w.cell? (b.add (i * 3)) = some (.int .i64 (l.getD i zz3).1) ∧ w.cell? (b.add (i * 3 + 1)) = some (.int .i64 (l.getD i zz3).2.1) ∧ w.cell? (b.add (i * 3 + 2)) = some (.int .i64 (l.getD i zz3).2.2))
    (hs : w.heap.size < N) (h1 : RowKit.Below w.heap.size w W) (h2 : RowKit.Below N W wr) (hlt : k < l.length) :
    ∃ x0 x1 x2 Ab Ao, l.getD k zz3 = (x0, x1, x2) ∧ b.add (k * 3) = ⟨Ab, Ao, none⟩ ∧ Ab < w.heap.size ∧ wr.cell? ⟨Ab, Ao, none⟩ = some (.int .i64 x0) ∧ wr.cell? ⟨Ab, Ao + 1, none⟩ = some (.int .i64 x1) ∧ wr.cell? ⟨Ab, Ao + 2, none⟩ = some (.int .i64 x2) := by
  have hcc := hc k hlt
  have hbl : ∀ q, (b.add q).block < w.heap.size := fun q => by have := World.block_lt_of_cell? w (b.add (k * 3)) hcc.1; rw [Go.Ev.addr_block] at this ⊢; exact this
  have kp : ∀ q, wr.cell? (b.add q) = w.cell? (b.add q) := fun q => (h2.cell (p := b.add q) (Nat.lt_trans (hbl q) hs)).trans (h1.cell (p := b.add q) (hbl q))
  have sp := World.cell?_spot hcc.1
  have e1 : b.add (k * 3 + 1) = (b.add (k * 3)).add 1 := (Addr.add_add _ _ _).symm
  have e2 : b.add (k * 3 + 2) = (b.add (k * 3)).add 2 := (Addr.add_add _ _ _).symm
  have d0 := (kp (k * 3)).trans hcc.1
  have d1 := (kp (k * 3 + 1)).trans hcc.2.1
  have d2 := (kp (k * 3 + 2)).trans hcc.2.2
  have hb0 := hbl (k * 3)
  rw [e1] at d1
  rw [e2] at d2
  generalize b.add (k * 3) = A at *
  obtain ⟨Ab, Ao, As⟩ := A
  simp only at sp
  subst sp
  rw [Addr.add_lit] at d1 d2
  exact ⟨_, _, _, Ab, Ao, rfl, rfl, hb0, d0, d1, d2⟩
theorem qap {T e : TypeId} {B b : Nat} {p : Value} {bs : List Value} {w w' : World} (h : BuilderAtF T e B b p bs w) (hb : RowKit.Below w.heap.size w w') : BuilderAtF T e B b p bs w' := by
  have hlt := h.lt
  obtain ⟨hB, v, hv, hown, hne⟩ := h
  exact ⟨hB, v, (hb.block b hlt).trans hv, hown.kept (row := none) ⟨hb.os, hb.tape, hb.output, hb.size, fun k hk _ => hb.block k hk⟩ (Classical.em _), hne⟩
theorem qgk {T e : TypeId} {B b : Nat} {bs : List Value} {w w' : World} (h : IsBuilderF T e B b bs w) (hb : RowKit.Below w.heap.size w w') : IsBuilderF T e B b bs w' := h.imp (fun h => qap h hb) (fun h => qap h hb)
theorem ws_k (B b : Nat) (bs : List Value) (s : ByteArray) (w : World) (h : IsBuilderF 118 5 B b bs w) (hlen : bs.length + s.size ≤ 140737488355328) (hBw : B ≤ w.heap.size) :
    Calls Tryd.prog 74 #[.pointer (some ⟨b, 0, none⟩), .string s] w fun e w' => e = .returned (.tuple #[.int .i64 s.size, .nilIface]) ∧ (BuilderAtF 118 5 B b (.pointer (some ⟨b, 0, none⟩)) (bs ++ strCells s) w' ∧ RowKit.Below B w w' ∧ OthersKept 5 (some b) w w') :=
  Any.Builder_WriteString_k Tryd.lays166 Tryd.Builder_Extra_166 B b bs s w h hlen hBw
theorem ss_f (B b : Nat) (l : List UInt8) (w : World) (h : IsBuilderF 118 5 B b (byteCells l) w) (hBw : B ≤ w.heap.size) :
    Calls Tryd.prog 75 #[.pointer (some ⟨b, 0, none⟩)] w fun e w' => e = .returned (.string ⟨l.toArray⟩) ∧ (IsBuilderF 118 5 B b (byteCells l) w' ∧ RowKit.Below B w w') :=
  Any.Builder_String_any_f Tryd.lays169 Tryd.Builder_Extra_169 B b l w h hBw
theorem qi4 {wr W2 : World} {b q : Nat} {x0 x1 x2 : Int} (o2 : OthersKept 5 (some b) ((wr.alloc (.cells #[.int .i64 x0, .int .i64 x1, .int .i64 x2] 131)).drewN q) W2) (hne : b < wr.heap.size) : W2.cell? ⟨wr.heap.size, 1, none⟩ = some (.int .i64 x1) := by
  have h := o2 wr.heap.size (.cells #[.int .i64 x0, .int .i64 x1, .int .i64 x2] 131 (0, 0)) (heap_alloc_new _ _) (by intro h; have := Option.some.inj h; omega) (fun c fz h => by cases h)
  simp [World.cell?, h]
theorem qkm {wr W : World} {o : Obj} {q B : Nat} (hB : B ≤ wr.heap.size) (h : RowKit.Below B ((wr.alloc o).drewN q) W) : RowKit.Below B wr W :=
  ((RowKit.Below.refl _ wr).alloc hB o).trans ((below_drewN _ _ _).trans h)
theorem qkl {wr W : World} {o : Obj} {q : Nat} (h : RowKit.Below ((wr.alloc o).drewN q).heap.size ((wr.alloc o).drewN q) W) : RowKit.Below wr.heap.size wr W := by
  have s1 : ((wr.alloc o).drewN q).heap.size = wr.heap.size + 1 := by show (wr.alloc o).heap.size = _; simp
  exact ((RowKit.Below.refl _ wr).alloc (Nat.le_refl _) o).trans ((below_drewN _ _ _).trans (h.mono (by omega)))
theorem qf3 (l : List Cell) (hv : ∀ i, i < l.length → inI64 (l.getD i zz3).2.1 = true) : ∀ n, n ≤ l.length → (fmTo l n).length ≤ 21 * n
  | 0, h => by simp [fmTo]
  | n + 1, h => by
    have a := qf3 l hv n (by omega)
    have b : (Lib.itoa (l.getD n (0, 0, 0)).2.1).length ≤ 20 := qgt _ (hv n (by omega))
    have c : (fmB l n).length ≤ 21 := by
      unfold fmB
      rw [List.length_append]
      split <;> simp only [List.length_cons, List.length_nil] <;> omega
    rw [fmTo, List.length_append]; omega
theorem qk0 (s : List UInt8) (h : s.length ≤ 21) {L : List Value} (hL : L.length ≤ 5000) : L.length + (⟨s.toArray⟩ : ByteArray).size ≤ 140737488355328 := by
  have : (⟨s.toArray⟩ : ByteArray).size = s.length := List.size_toArray ..
  omega
set_option maxHeartbeats 2000000 in
theorem qf5 (r : Int) (l : List Cell) (b : Addr) (c : Nat) (w : World) (hk : Kept w) (hl : l.length ≤ 128) (hv : ∀ i, i < l.length → inI64 (l.getD i zz3).2.1 = true)
    (hc : ∀ i, i < l.length → w.cell? (b.add (i * 3)) = some (.int .i64 (l.getD i zz3).1) ∧ w.cell? (b.add (i * 3 + 1)) = some (.int .i64 (l.getD i zz3).2.1) ∧ w.cell? (b.add (i * 3 + 2)) = some (.int .i64 (l.getD i zz3).2.2))
    (hM : ∀ W, RowKit.Below w.heap.size w W → Calls Tryd.prog 91 #[.agg #[.int .i64 r, .slice (some b) l.length c]] W fun e w' => e = .returned (.bool true) ∧ RowKit.Below W.heap.size W w') :
    Calls Tryd.prog 49 #[.agg #[.int .i64 r, .slice (some b) l.length c]] w fun e w' => e = .returned (.string ⟨(fmTo l l.length).toArray⟩) ∧ RowKit.Below w.heap.size w w' := by
  have b0 : RowKit.Below w.heap.size w (w.alloc (.cells #[.int .i64 r, .slice (some b) l.length c] 59)) := (RowKit.Below.refl _ w).alloc (Nat.le_refl _) _
  have hM' := hM _ b0
  clear hM
  go_enter Tryd.func49, Tryd.ntmps49
  go_wp2_with (go_at_call 91; refine hM'.mono ?_)
  rintro e W1 ⟨rfl, b1⟩
  clear hM'
  have hs1 : w.heap.size < W1.heap.size := by have := b1.size; simp at this; omega
  have hb1 : W1.heap[w.heap.size]? = some (.cells #[.int .i64 r, .slice (some b) l.length c] 59 (0, 0)) := (b1.block _ (by simp)).trans (heap_alloc_new _ _)
  have hb2 : (W1.alloc (.cells #[.pointer none, .slice none 0 0] 118)).heap[w.heap.size]? = some (.cells #[.int .i64 r, .slice (some b) l.length c] 59 (0, 0)) := (RowKit.Below.heap_alloc _ _ _ hs1).trans hb1
  have e11 : (W1.alloc (.cells #[.pointer none, .slice none 0 0] 118)).cell? ⟨w.heap.size, 1, none⟩ = some (.slice (some b) l.length c) := by simp [World.cell?, hb2]
  have h0 : IsBuilderF 118 5 W1.heap.size W1.heap.size (byteCells (fmTo l 0)) (W1.alloc (.cells #[.pointer none, .slice none 0 0] 118)) := IsBuilderF.of (Lib.fresh_isBuilder 118 5 W1)
  have b2 : RowKit.Below w.heap.size w (W1.alloc (.cells #[.pointer none, .slice none 0 0] 118)) := (b0.trans (b1.mono b0.size)).alloc (by omega) _
  have H := Hid.mk' (And.intro h0 (And.intro b2 (And.intro hb2 hs1)))
  clear h0 b2 hb2 hb1 b0 b1
  go_wp2
  go_loopw [13] (fun i wr => ∃ k : Nat, k ≤ l.length ∧ i = .int .i64 k ∧ IsBuilderF 118 5 W1.heap.size W1.heap.size (byteCells (fmTo l k)) wr ∧ RowKit.Below W1.heap.size (W1.alloc (.cells #[.pointer none, .slice none 0 0] 118)) wr) (fun i _ => l.length - (RowKit.intOf i).toNat)
  case atStart => exact ⟨0, Nat.zero_le _, rfl, H.out.1, RowKit.Below.refl _ _⟩
  case round =>
    obtain ⟨k, hkl, rfl, hB, hnx⟩ := hrel
    have e12 : wr.cell? ⟨w.heap.size, 1, none⟩ = some (.slice (some b) l.length c) := (hnx.cell (by exact hs1)).trans e11
    clear e11
    by_cases hlt : k < l.length
    · obtain ⟨x0, x1, x2, Ab, Ao, hx, hA, hbA, c0, c1, c2⟩ := qhn hc hs1 H.out.2.1 hnx hlt
      have hx1 : inI64 x1 = true := by have := hv k hlt; rw [hx] at this; exact this
      have hR : (byteCells (fmTo l k)).length ≤ 4000 := by
        have := qf3 l hv k hkl
        rw [byteCells_length]; omega
      have hI := qgt x1 hx1
      have bX : ∀ W, RowKit.Below wr.heap.size wr W → RowKit.Below w.heap.size w W := fun W h => H.out.2.1.trans ((hnx.trans (h.mono (Nat.le_trans (by simp) hnx.size))).mono (by omega))
      have bY : ∀ W, RowKit.Below wr.heap.size wr W → RowKit.Below W1.heap.size (W1.alloc (.cells #[.pointer none, .slice none 0 0] 118)) W := fun W h => hnx.trans (h.mono (Nat.le_trans (by simp) hnx.size))
      by_cases hk0 : k = 0
      · have hd : decide (0 < (k : Int)) = false := by simp; omega
        have hd2 : decide (0 < k) = false := by simp; omega
        have hd3 : ¬ 0 < k := by omega
        have hS : byteCells (fmTo l (k + 1)) = byteCells (fmTo l k) ++ byteCells (Lib.itoa x1) := by rw [fmTo, fmB, if_neg (by omega), hx, List.nil_append, byteCells_append]
        have K0 := Hid.mk' (And.intro hR (And.intro hI (And.intro hS (And.intro hB (And.intro bX bY)))))
        clear hk0 hx hS hv hc hR hI hB bX bY hbA
        go_wp2_with (fail)
        go_quiet (fail)
        go_wp2_with (go_at_call 37; refine (qf6 x1 hx1 _ (qg4 hk (K0.out.2.2.2.2.1 _ (qkl (RowKit.Below.refl _ _))))).mono ?_)
        rintro e W3 ⟨rfl, b3⟩
        have b3' := qkl b3
        clear b3
        go_wp2_with (go_at_call 74; refine (ws_k W1.heap.size W1.heap.size (byteCells (fmTo l k)) _ _ (qgk K0.out.2.2.2.1 b3') (qk0 _ (by have := K0.out.2.1; omega) (by have := K0.out.1; omega)) (Nat.le_trans (Nat.le_trans (by simp) hnx.size) b3'.size)).mono ?_)
        rintro e W4 ⟨rfl, h4, b4, _⟩
        go_wp2
        go_roundw
        case rel => exact ⟨k + 1, by omega, by go_num, Or.inr (by rw [K0.out.2.2.1]; exact h4), (K0.out.2.2.2.2.2 _ b3').trans b4⟩
        case measure => simp [RowKit.intOf]; omega
      · obtain ⟨y0, y1, y2, Pb, Po, hy, hP, hbP, p0, p1, p2⟩ := qhn hc hs1 H.out.2.1 hnx (show k - 1 < l.length by omega)
        have hd : decide (0 < (k : Int)) = true := by simp; omega
        have hd2 : decide (0 < k) = true := by simp; omega
        have hd3 : 0 < k := by omega
        have hT : ((k : Int) - 1).toNat = k - 1 := by omega
        have hT2 : (k : Int) - 1 = ((k - 1 : Nat) : Int) := by omega
        have hlt2 : k - 1 < l.length := by omega
        have bA : RowKit.Below wr.heap.size wr (wr.alloc (.cells #[.int .i64 x0, .int .i64 x1, .int .i64 x2] 131)) := (RowKit.Below.refl _ wr).alloc (Nat.le_refl _) _
        have hwr : W1.heap.size < wr.heap.size := Nat.lt_of_lt_of_le (by simp) hnx.size
        have e13 : (wr.alloc (.cells #[.int .i64 x0, .int .i64 x1, .int .i64 x2] 131)).cell? ⟨w.heap.size, 1, none⟩ = some (.slice (some b) l.length c) := (bA.cell (by exact Nat.lt_trans hs1 hwr)).trans e12
        have p0' : (wr.alloc (.cells #[.int .i64 x0, .int .i64 x1, .int .i64 x2] 131)).cell? ⟨Pb, Po, none⟩ = some (.int .i64 y0) := (bA.cell (by exact Nat.lt_trans hbP (Nat.lt_trans hs1 hwr))).trans p0
        by_cases hq : x0 = y0
        · have hS : byteCells (fmTo l (k + 1)) = byteCells (fmTo l k) ++ byteCells (Lib.itoa x1) := by rw [fmTo, fmB, hx, hy, if_neg (by simp [hq]), List.nil_append, byteCells_append]
          have K0 := Hid.mk' (And.intro hR (And.intro hI (And.intro hS (And.intro hB (And.intro bX bY)))))
          clear hk0 hx hy hS hv hc hR hI hB bX bY hbA hbP bA hwr p0 p1 p2
          subst hq
          go_wp2_with (fail)
          go_quiet (fail)
          go_wp2_with (go_at_call 37; refine (qf6 x1 hx1 _ (qg4 hk (K0.out.2.2.2.2.1 _ (qkl (RowKit.Below.refl _ _))))).mono ?_)
          rintro e W3 ⟨rfl, b3⟩
          have b3' := qkl b3
          clear b3
          go_wp2_with (go_at_call 74; refine (ws_k W1.heap.size W1.heap.size (byteCells (fmTo l k)) _ _ (qgk K0.out.2.2.2.1 b3') (qk0 _ (by have := K0.out.2.1; omega) (by have := K0.out.1; omega)) (Nat.le_trans (Nat.le_trans (by simp) hnx.size) b3'.size)).mono ?_)
          rintro e W4 ⟨rfl, h4, b4, _⟩
          go_wp2
          go_roundw
          case rel => exact ⟨k + 1, by omega, by go_num, Or.inr (by rw [K0.out.2.2.1]; exact h4), (K0.out.2.2.2.2.2 _ b3').trans b4⟩
          case measure => simp [RowKit.intOf]; omega
        · have hS : byteCells (fmTo l (k + 1)) = byteCells (fmTo l k) ++ byteCells [124] ++ byteCells (Lib.itoa x1) := by rw [fmTo, fmB, hx, hy, if_pos ⟨hd3, hq⟩, byteCells_append, byteCells_append, List.append_assoc]
          have K0 := Hid.mk' (And.intro hR (And.intro hI (And.intro hS (And.intro hB (And.intro bX bY)))))
          have HW := Hid.mk' hwr
          clear hk0 hx hy hS hv hc hR hI hB bX bY hbA hbP bA hwr p0 p1 p2
          go_wp2_with (fail)
          go_quiet (fail)
          go_wp2_with (go_at_call 74; refine (ws_k W1.heap.size W1.heap.size (byteCells (fmTo l k)) _ _ (qgk K0.out.2.2.2.1 (qkl (RowKit.Below.refl _ _))) (qk0 [124] (by simp) (by have := K0.out.1; omega)) (Nat.le_trans (Nat.le_of_lt HW.out) (qkl (RowKit.Below.refl _ _)).size)).mono ?_)
          rintro e W2 ⟨rfl, h2, b2, o2⟩
          have x2c := qi4 o2 HW.out
          have b2' := qkm (Nat.le_of_lt HW.out) b2
          have hwW : W1.heap.size ≤ W2.heap.size := Nat.le_trans (Nat.le_of_lt HW.out) b2'.size
          clear o2 b2
          have cF := qf6 x1 hx1 W2 (qg4 hk (H.out.2.1.trans ((hnx.trans b2').mono (Nat.le_of_lt hs1))))
          go_wp2_with (go_at_call 37; refine cF.mono ?_)
          rintro e W3 ⟨rfl, b3⟩
          clear x2c cF
          go_wp2_with (go_at_call 74; refine (ws_k W1.heap.size W1.heap.size (byteCells (fmTo l k) ++ strCells ⟨#[124]⟩) _ _ (qgk (Or.inr h2) b3) (qk0 _ (by have := K0.out.2.1; omega) (by have := K0.out.1; rw [List.length_append]; have : (strCells ⟨#[124]⟩).length = 1 := rfl; omega)) (Nat.le_trans hwW b3.size)).mono ?_)
          rintro e W4 ⟨rfl, h4, b4, _⟩
          go_wp2
          go_roundw
          case rel => exact ⟨k + 1, by omega, by go_num, Or.inr (by rw [K0.out.2.2.1]; exact h4), hnx.trans (b2'.trans ((b3.mono hwW).trans b4))⟩
          case measure => simp [RowKit.intOf]; omega
    · obtain rfl : k = l.length := by omega
      go_wp2_with (go_at_call 75; refine (ss_f W1.heap.size W1.heap.size (fmTo l l.length) _ hB (Nat.le_trans (by simp) hnx.size)).mono ?_)
      rintro e W2 ⟨rfl, _, b2⟩
      go_wp2
      go_ret
      exact ⟨rfl, H.out.2.1.trans ((hnx.trans b2).mono (Nat.le_of_lt hs1))⟩
theorem qil (r : Int) : ∀ (l : List Cell) (p : Int), meshGox r p l = qie r p l
  | [], p => rfl
  | x :: l, p => by
    have h := qil r l (startOfx x.1 x.2.1 x.2.2 + widthx x.2.1)
    unfold meshGox qie
    rw [h]; rfl
theorem qjg : ∀ (l : List Cell) (i : Nat), i < l.length → (Arr.r3 l).cells[i * 3]? = some (.int .i64 (l.getD i zz3).1) ∧ (Arr.r3 l).cells[i * 3 + 1]? = some (.int .i64 (l.getD i zz3).2.1) ∧ (Arr.r3 l).cells[i * 3 + 2]? = some (.int .i64 (l.getD i zz3).2.2)
  | [], i, h => by simp at h
  | x :: l, 0, h => ⟨rfl, rfl, rfl⟩
  | x :: l, i + 1, h => by
    have e : (Arr.r3 (x :: l)).cells = .int .i64 x.1 :: .int .i64 x.2.1 :: .int .i64 x.2.2 :: (Arr.r3 l).cells := rfl
    have ih := qjg l i (by simpa using h)
    rw [e, show (i + 1) * 3 = i * 3 + 1 + 1 + 1 by omega, show i * 3 + 1 + 1 + 1 + 1 = i * 3 + 1 + 1 + 1 + 1 from rfl]
    simp only [List.getElem?_cons_succ, List.getD_cons_succ]
    exact ih
theorem qix (s : ByteArray) : okTs Tryd.prog [9] [.str s] = true := by kernel_rfl
theorem qgy (ds rs : List D) (h : fmeshGo ds = some rs) : Contract Tryd.prog 49 [] ds rs := by
  unfold fmeshGo at h
  split at h
  · rename_i r z l
    cases hn : decide (l.length ≤ 1048576)
    · rw [hn] at h; cases h
    rw [hn] at h
    have h := Option.some.inj (show some _ = some rs from h)
    subst h
    have hl : l.length ≤ 1048576 := of_decide_eq_true hn
    refine str_contract (fn := Tryd.f49) (S := 9) Tryd.func49 (by kernel_rfl) (by kernel_rfl) (qix _) (fun w args FF hk hd => ?_)
    simp only [RepDs, RepD] at hd
    obtain ⟨u0, us0, F0, F0', e0, rfl, ⟨vs, rfl, hvs⟩, rfl, rfl⟩ := hd
    obtain ⟨u1, us1, F1, F1', e1, rfl, ⟨rfl, rfl⟩, u2, us2, F2, F2', rfl, rfl, ⟨p, rfl, rp, rfl⟩, rfl, rfl⟩ := hvs
    have hv : vs = #[.int .i64 r, .slice p.base p.len p.cap] := by rw [← Array.toArray_toList (xs := vs), e1]
    subst hv
    have ha : args = #[.agg #[.int .i64 r, .slice p.base p.len p.cap]] := by rw [← Array.toArray_toList (xs := args), e0]
    subst ha
    obtain ⟨r1, r2, r3, r4, r5, r6⟩ := id rp
    have r1' : l.length = p.len := r1
    have hM : ∀ b, qie r 0 l = b → ∀ W, RowKit.Below w.heap.size w W → Calls Tryd.prog 91 #[.agg #[.int .i64 r, .slice p.base p.len p.cap]] W fun e w' => e = .returned (.bool b) ∧ RowKit.Below W.heap.size W w' := fun b hb W hW => by
      subst hb
      refine qa6 (FF := [(false, foot p (.arr false z (.r3 l)))]) (qg1 r z l (by omega)) (qg4 hk hW) ?_ (by simp [Go.Ev.Sep]) ?_
      · simp only [RepDs, RepD]
        exact ⟨_, [], _, [], rfl, (List.append_nil _).symm, ⟨_, rfl, _, _, [], _, rfl, rfl, ⟨rfl, rfl⟩, _, [], _, [], rfl, (List.append_nil _).symm, ⟨p, rfl, rp.frame (fr_of_below (M := fun _ _ => False) hW) (fun _ _ _ h => h), rfl⟩, rfl, rfl⟩, rfl, rfl⟩
      · rintro x off ⟨A, hA, ho, _⟩
        rw [List.mem_singleton] at hA
        subst hA
        cases ho
    cases g : qie r 0 l
    · have e : fmeshL r l = [] := by unfold fmeshL; rw [qil, g]; rfl
      rw [e]
      exact qf4 r p.base p.len p.cap w (hM false g)
    · have L := qij g
      have e : fmeshL r l = fmTo l l.length := by unfold fmeshL; rw [qil, g]; rfl
      have hM1 := hM true g
      rw [e]
      cases hb : p.base with
      | none => have := (r4 hb).2; omega
      | some b =>
        have hc := (r5 b hb).2
        rw [hb, ← r1'] at hM1
        rw [← r1']
        refine qf5 r l b p.cap w hk L.2 (fun i hi => ?_) (fun i hi => ?_) hM1
        · have h := qik l r 0 g i
          simp only [qhp] at h
          unfold inI64
          rw [decide_eq_true (by omega : -9223372036854775808 ≤ (l.getD i zz3).2.1), decide_eq_true (by omega : (l.getD i zz3).2.1 ≤ 9223372036854775807)]; rfl
        · have c := qjg l i hi
          exact ⟨hc _ _ c.1, hc _ _ c.2.1, hc _ _ c.2.2⟩
  · cases h
end Go.Proofs.YtjfjniebmdafeaaDoor
end
section
namespace Go.Proofs
open Go.Shelf
def Tryd.lays157_ren : Go.Shelf.Ren := ⟨fun | 157 => 99 | 229 => 124 | 199 => 125 | 261 => 145 | 311 => 161 | 312 => 162 | n => n, fun | 9 => 9 | 31 => 55 | 3 => 3 | 5 => 5 | 4 => 4 | 119 => 161 | 0 => 0 | 40 => 163 | 152 => 178 | 21 => 21 | 154 => 180 | 51 => 181 | 141 => 183 | 196 => 204 | 193 => 201 | 198 => 207 | 49 => 205 | 194 => 202 | 201 => 210 | 226 => 224 | 46 => 171 | 227 => 225 | n => n, fun | 0 => 0 | 6 => 1 | n => n⟩
theorem Tryd.lays157 : Go.Proofs.Lays.n157 Tryd.prog Tryd.lays157_ren := {
  mixed := by kernel_rfl
  f157 := Tryd.func99.trans (congrArg some (by kernel_rfl))
  f199 := Tryd.func125.trans (congrArg some (by kernel_rfl))
  f229 := Tryd.func124.trans (congrArg some (by kernel_rfl))
  f261 := Tryd.func145.trans (congrArg some (by kernel_rfl))
  f311 := Tryd.func161.trans (congrArg some (by kernel_rfl))
  f312 := Tryd.func162.trans (congrArg some (by kernel_rfl))
  t0 := Tryd.underlying0
  a0 := Tryd.isAgg0
  z0 := Tryd.sizeOf0
  v0 := Tryd.zeroValue0
  t3 := Tryd.underlying3
  a3 := Tryd.isAgg3
  z3 := Tryd.sizeOf3
  v3 := Tryd.zeroValue3
  t4 := Tryd.underlying4
  a4 := Tryd.isAgg4
  z4 := Tryd.sizeOf4
  v4 := Tryd.zeroValue4
  t5 := Tryd.underlying5
  a5 := Tryd.isAgg5
  z5 := Tryd.sizeOf5
  v5 := Tryd.zeroValue5
  t9 := Tryd.underlying9
  a9 := Tryd.isAgg9
  z9 := Tryd.sizeOf9
  v9 := Tryd.zeroValue9
  t21 := Tryd.underlying21
  a21 := Tryd.isAgg21
  z21 := Tryd.sizeOf21
  v21 := Tryd.zeroValue21
  t31 := Tryd.underlying55
  a31 := Tryd.isAgg55
  z31 := Tryd.sizeOf55
  v31 := Tryd.zeroValue55
  t40 := Tryd.underlying163
  a40 := Tryd.isAgg163
  z40 := Tryd.sizeOf163
  v40 := Tryd.zeroValue163
  t46 := Tryd.underlying171
  a46 := Tryd.isAgg171
  z46 := Tryd.sizeOf171
  v46 := Tryd.zeroValue171
  t49 := Tryd.underlying205
  a49 := Tryd.isAgg205
  z49 := Tryd.sizeOf205
  v49 := Tryd.zeroValue205
  t51 := Tryd.underlying181
  a51 := Tryd.isAgg181
  z51 := Tryd.sizeOf181
  v51 := Tryd.zeroValue181
  t119 := Tryd.underlying161
  a119 := Tryd.isAgg161
  z119 := Tryd.sizeOf161
  t141 := Tryd.underlying183
  a141 := Tryd.isAgg183
  z141 := Tryd.sizeOf183
  v141 := Tryd.zeroValue183
  t152 := Tryd.underlying178
  a152 := Tryd.isAgg178
  z152 := Tryd.sizeOf178
  v152 := Tryd.zeroValue178
  t154 := Tryd.underlying180
  a154 := Tryd.isAgg180
  z154 := Tryd.sizeOf180
  v154 := Tryd.zeroValue180
  t193 := Tryd.underlying201
  a193 := Tryd.isAgg201
  z193 := Tryd.sizeOf201
  v193 := Tryd.zeroValue201
  t194 := Tryd.underlying202
  a194 := Tryd.isAgg202
  z194 := Tryd.sizeOf202
  v194 := Tryd.zeroValue202
  t196 := Tryd.underlying204
  a196 := Tryd.isAgg204
  z196 := Tryd.sizeOf204
  v196 := Tryd.zeroValue204
  t198 := Tryd.underlying207
  a198 := Tryd.isAgg207
  z198 := Tryd.sizeOf207
  v198 := Tryd.zeroValue207
  t201 := Tryd.underlying210
  a201 := Tryd.isAgg210
  z201 := Tryd.sizeOf210
  v201 := Tryd.zeroValue210
  t226 := Tryd.underlying224
  a226 := Tryd.isAgg224
  z226 := Tryd.sizeOf224
  v226 := Tryd.zeroValue224
  t227 := Tryd.underlying225
  a227 := Tryd.isAgg225
  z227 := Tryd.sizeOf225
  v227 := Tryd.zeroValue225
  g0 := by kernel_rfl
  g6 := by kernel_rfl }
def Tryd.lays156_ren : Go.Shelf.Ren := ⟨fun | 156 => 63 | 165 => 101 | 166 => 74 | 169 => 75 | 240 => 108 | 241 => 128 | 276 => 133 | 277 => 151 | n => n, fun | 31 => 55 | 9 => 9 | 3 => 3 | 4 => 4 | 0 => 0 | 20 => 20 | 72 => 118 | 76 => 121 | 70 => 116 | 37 => 77 | 75 => 120 | 127 => 152 | 164 => 167 | 5 => 5 | 80 => 123 | n => n, fun | n => n⟩
theorem Tryd.lays156 : Go.Proofs.Lays.n156 Tryd.prog Tryd.lays156_ren := {
  mixed := by kernel_rfl
  f156 := Tryd.func63.trans (congrArg some (by kernel_rfl))
  f165 := Tryd.func101.trans (congrArg some (by kernel_rfl))
  f166 := Tryd.func74.trans (congrArg some (by kernel_rfl))
  f169 := Tryd.func75.trans (congrArg some (by kernel_rfl))
  f240 := Tryd.func108.trans (congrArg some (by kernel_rfl))
  f241 := Tryd.func128.trans (congrArg some (by kernel_rfl))
  f276 := Tryd.func133.trans (congrArg some (by kernel_rfl))
  f277 := Tryd.func151.trans (congrArg some (by kernel_rfl))
  t0 := Tryd.underlying0
  a0 := Tryd.isAgg0
  z0 := Tryd.sizeOf0
  v0 := Tryd.zeroValue0
  t3 := Tryd.underlying3
  a3 := Tryd.isAgg3
  z3 := Tryd.sizeOf3
  v3 := Tryd.zeroValue3
  t4 := Tryd.underlying4
  a4 := Tryd.isAgg4
  z4 := Tryd.sizeOf4
  v4 := Tryd.zeroValue4
  t9 := Tryd.underlying9
  a9 := Tryd.isAgg9
  z9 := Tryd.sizeOf9
  v9 := Tryd.zeroValue9
  t20 := Tryd.underlying20
  a20 := Tryd.isAgg20
  z20 := Tryd.sizeOf20
  v20 := Tryd.zeroValue20
  t31 := Tryd.underlying55
  a31 := Tryd.isAgg55
  z31 := Tryd.sizeOf55
  v31 := Tryd.zeroValue55
  t37 := Tryd.underlying77
  a37 := Tryd.isAgg77
  z37 := Tryd.sizeOf77
  v37 := Tryd.zeroValue77
  t70 := Tryd.underlying116
  a70 := Tryd.isAgg116
  z70 := Tryd.sizeOf116
  v70 := Tryd.zeroValue116
  t72 := Tryd.underlying118
  a72 := Tryd.isAgg118
  z72 := Tryd.sizeOf118
  v72 := Tryd.zeroValue118
  t75 := Tryd.underlying120
  a75 := Tryd.isAgg120
  z75 := Tryd.sizeOf120
  v75 := Tryd.zeroValue120
  t76 := Tryd.underlying121
  a76 := Tryd.isAgg121
  z76 := Tryd.sizeOf121
  v76 := Tryd.zeroValue121
  t127 := Tryd.underlying152
  a127 := Tryd.isAgg152
  z127 := Tryd.sizeOf152
  v127 := Tryd.zeroValue152
  t164 := Tryd.underlying167
  a164 := Tryd.isAgg167
  z164 := Tryd.sizeOf167
  v164 := Tryd.zeroValue167 }
def Tryd.laysC172_ren : Go.Shelf.Ren := ⟨fun | 172 => 100 | 244 => 126 | 245 => 127 | 247 => 146 | 279 => 147 | 280 => 148 | 281 => 149 | 282 => 150 | 287 => 163 | 316 => 164 | 171 => 76 | 205 => 165 | 321 => 172 | 322 => 173 | 243 => 109 | 246 => 134 | 283 => 155 | 284 => 156 | 285 => 157 | 286 => 158 | 129 => 168 | 317 => 167 | 318 => 169 | 319 => 170 | 320 => 171 | 337 => 174 | 338 => 175 | n => n, fun | 9 => 9 | 3 => 3 | 75 => 120 | 76 => 121 | 4 => 4 | 5 => 5 | 167 => 184 | 37 => 77 | 0 => 0 | 85 => 185 | 2 => 2 | 168 => 187 | 53 => 195 | 175 => 212 | 46 => 171 | 210 => 216 | 127 => 152 | 145 => 229 | 143 => 227 | 21 => 21 | 171 => 194 | 173 => 198 | 212 => 221 | 51 => 181 | 20 => 20 | 213 => 222 | 232 => 231 | 233 => 232 | 80 => 123 | n => n, fun | 15 => 2 | 16 => 3 | 17 => 5 | 18 => 6 | 19 => 7 | n => n⟩
theorem Tryd.laysC172 : Go.Proofs.LaysC.n172 Tryd.prog Tryd.laysC172_ren := {
  mixed := by kernel_rfl
  f129 := Tryd.func168.trans (congrArg some (by kernel_rfl))
  f171 := Tryd.func76.trans (congrArg some (by kernel_rfl))
  f172 := Tryd.func100.trans (congrArg some (by kernel_rfl))
  f205 := Tryd.func165.trans (congrArg some (by kernel_rfl))
  f243 := Tryd.func109.trans (congrArg some (by kernel_rfl))
  f244 := Tryd.func126.trans (congrArg some (by kernel_rfl))
  f245 := Tryd.func127.trans (congrArg some (by kernel_rfl))
  f246 := Tryd.func134.trans (congrArg some (by kernel_rfl))
  f247 := Tryd.func146.trans (congrArg some (by kernel_rfl))
  f279 := Tryd.func147.trans (congrArg some (by kernel_rfl))
  f280 := Tryd.func148.trans (congrArg some (by kernel_rfl))
  f281 := Tryd.func149.trans (congrArg some (by kernel_rfl))
  f282 := Tryd.func150.trans (congrArg some (by kernel_rfl))
  f283 := Tryd.func155.trans (congrArg some (by kernel_rfl))
  f284 := Tryd.func156.trans (congrArg some (by kernel_rfl))
  f285 := Tryd.func157.trans (congrArg some (by kernel_rfl))
  f286 := Tryd.func158.trans (congrArg some (by kernel_rfl))
  f287 := Tryd.func163.trans (congrArg some (by kernel_rfl))
  f316 := Tryd.func164.trans (congrArg some (by kernel_rfl))
  f317 := Tryd.func167.trans (congrArg some (by kernel_rfl))
  f318 := Tryd.func169.trans (congrArg some (by kernel_rfl))
  f319 := Tryd.func170.trans (congrArg some (by kernel_rfl))
  f320 := Tryd.func171.trans (congrArg some (by kernel_rfl))
  f321 := Tryd.func172.trans (congrArg some (by kernel_rfl))
  f322 := Tryd.func173.trans (congrArg some (by kernel_rfl))
  f337 := Tryd.func174.trans (congrArg some (by kernel_rfl))
  f338 := Tryd.func175.trans (congrArg some (by kernel_rfl))
  t0 := Tryd.underlying0
  a0 := Tryd.isAgg0
  z0 := Tryd.sizeOf0
  v0 := Tryd.zeroValue0
  t2 := Tryd.underlying2
  a2 := Tryd.isAgg2
  z2 := Tryd.sizeOf2
  v2 := Tryd.zeroValue2
  t3 := Tryd.underlying3
  a3 := Tryd.isAgg3
  z3 := Tryd.sizeOf3
  v3 := Tryd.zeroValue3
  t4 := Tryd.underlying4
  a4 := Tryd.isAgg4
  z4 := Tryd.sizeOf4
  v4 := Tryd.zeroValue4
  t5 := Tryd.underlying5
  a5 := Tryd.isAgg5
  z5 := Tryd.sizeOf5
  v5 := Tryd.zeroValue5
  t9 := Tryd.underlying9
  a9 := Tryd.isAgg9
  z9 := Tryd.sizeOf9
  v9 := Tryd.zeroValue9
  t20 := Tryd.underlying20
  a20 := Tryd.isAgg20
  z20 := Tryd.sizeOf20
  v20 := Tryd.zeroValue20
  t21 := Tryd.underlying21
  a21 := Tryd.isAgg21
  z21 := Tryd.sizeOf21
  v21 := Tryd.zeroValue21
  t37 := Tryd.underlying77
  a37 := Tryd.isAgg77
  z37 := Tryd.sizeOf77
  v37 := Tryd.zeroValue77
  t46 := Tryd.underlying171
  a46 := Tryd.isAgg171
  z46 := Tryd.sizeOf171
  v46 := Tryd.zeroValue171
  t51 := Tryd.underlying181
  a51 := Tryd.isAgg181
  z51 := Tryd.sizeOf181
  v51 := Tryd.zeroValue181
  t53 := Tryd.underlying195
  a53 := Tryd.isAgg195
  z53 := Tryd.sizeOf195
  v53 := Tryd.zeroValue195
  t75 := Tryd.underlying120
  a75 := Tryd.isAgg120
  z75 := Tryd.sizeOf120
  v75 := Tryd.zeroValue120
  t76 := Tryd.underlying121
  a76 := Tryd.isAgg121
  z76 := Tryd.sizeOf121
  v76 := Tryd.zeroValue121
  t85 := Tryd.underlying185
  a85 := Tryd.isAgg185
  z85 := Tryd.sizeOf185
  v85 := Tryd.zeroValue185
  t127 := Tryd.underlying152
  a127 := Tryd.isAgg152
  z127 := Tryd.sizeOf152
  v127 := Tryd.zeroValue152
  t143 := Tryd.underlying227
  a143 := Tryd.isAgg227
  z143 := Tryd.sizeOf227
  v143 := Tryd.zeroValue227
  t145 := Tryd.underlying229
  a145 := Tryd.isAgg229
  z145 := Tryd.sizeOf229
  v145 := Tryd.zeroValue229
  t167 := Tryd.underlying184
  a167 := Tryd.isAgg184
  z167 := Tryd.sizeOf184
  v167 := Tryd.zeroValue184
  t168 := Tryd.underlying187
  a168 := Tryd.isAgg187
  z168 := Tryd.sizeOf187
  v168 := Tryd.zeroValue187
  t171 := Tryd.underlying194
  a171 := Tryd.isAgg194
  z171 := Tryd.sizeOf194
  v171 := Tryd.zeroValue194
  t173 := Tryd.underlying198
  a173 := Tryd.isAgg198
  z173 := Tryd.sizeOf198
  v173 := Tryd.zeroValue198
  t175 := Tryd.underlying212
  a175 := Tryd.isAgg212
  z175 := Tryd.sizeOf212
  v175 := Tryd.zeroValue212
  t210 := Tryd.underlying216
  a210 := Tryd.isAgg216
  z210 := Tryd.sizeOf216
  v210 := Tryd.zeroValue216
  t212 := Tryd.underlying221
  a212 := Tryd.isAgg221
  z212 := Tryd.sizeOf221
  v212 := Tryd.zeroValue221
  t213 := Tryd.underlying222
  a213 := Tryd.isAgg222
  z213 := Tryd.sizeOf222
  t232 := Tryd.underlying231
  a232 := Tryd.isAgg231
  z232 := Tryd.sizeOf231
  v232 := Tryd.zeroValue231
  t233 := Tryd.underlying232
  a233 := Tryd.isAgg232
  z233 := Tryd.sizeOf232
  v233 := Tryd.zeroValue232
  g15 := by kernel_rfl
  g16 := by kernel_rfl
  g17 := by kernel_rfl
  g18 := by kernel_rfl
  g19 := by kernel_rfl
  t80 := Tryd.underlying123
  a80 := Tryd.isAgg123
  z80 := Tryd.sizeOf123
  v80 := Tryd.zeroValue123
  i0 := by kernel_rfl
  i2 := by kernel_rfl
  i3 := by kernel_rfl
  i4 := by kernel_rfl
  i5 := by kernel_rfl
  i9 := by kernel_rfl
  i20 := by kernel_rfl
  i21 := by kernel_rfl
  i37 := by kernel_rfl
  i46 := by kernel_rfl
  i51 := by kernel_rfl
  i53 := by kernel_rfl
  i75 := by kernel_rfl
  i76 := by kernel_rfl
  i80 := by kernel_rfl
  i85 := by kernel_rfl
  i127 := by kernel_rfl
  i143 := by kernel_rfl
  i145 := by kernel_rfl
  i167 := by kernel_rfl
  i168 := by kernel_rfl
  i171 := by kernel_rfl
  i173 := by kernel_rfl
  i175 := by kernel_rfl
  i210 := by kernel_rfl
  i212 := by kernel_rfl
  i232 := by kernel_rfl
  i233 := by kernel_rfl
  m15 := by kernel_rfl
  m16 := by kernel_rfl
  m17 := by kernel_rfl
  m18 := by kernel_rfl
  m19 := by kernel_rfl
  c0 := by kernel_rfl
  c2 := by kernel_rfl
  c3 := by kernel_rfl
  c4 := by kernel_rfl
  c5 := by kernel_rfl
  c9 := by kernel_rfl
  c20 := by kernel_rfl
  c21 := by kernel_rfl
  c37 := by kernel_rfl
  c46 := by kernel_rfl
  c51 := by kernel_rfl
  c53 := by kernel_rfl
  c75 := by kernel_rfl
  c76 := by kernel_rfl
  c80 := by kernel_rfl
  c85 := by kernel_rfl
  c127 := by kernel_rfl
  c143 := by kernel_rfl
  c145 := by kernel_rfl
  c167 := by kernel_rfl
  c168 := by kernel_rfl
  c171 := by kernel_rfl
  c173 := by kernel_rfl
  c175 := by kernel_rfl
  c210 := by kernel_rfl
  c212 := by kernel_rfl
  c213 := by kernel_rfl
  c232 := by kernel_rfl
  c233 := by kernel_rfl }
theorem Tryd.Builder_Extra_156 : Builder.Extra Tryd.prog Tryd.lays156_ren := {
  sizeBuilder := by kernel_rfl
  liesBuilder := by kernel_rfl
  t5 := Tryd.underlying5
  a5 := Tryd.isAgg5
  z5 := Tryd.sizeOf5
  v5 := Tryd.zeroValue5
  infoByte := by kernel_rfl
  cellsByte := by kernel_rfl
  sizeByte := by kernel_rfl
  neB5 := by decide }
end Go.Proofs
end
section
namespace Go.Proofs.YtjfjniebmdafeaaDoor
open Go.RowKit Go.Lib Go.Ev Go.Shelf Go.Sort
theorem qkc {w : World} (h : Kept w) : Lib.TabIs Tryd.prog w "strings.asciiSpace" .u8 Lib.asciiSpaceTab := by
  obtain ⟨c, t, z, e, hc⟩ := h _ (List.Mem.tail _ (List.Mem.head _))
  obtain rfl : c = _ := hc
  unfold Lib.TabIs World.var?
  rw [show Tryd.prog.globalNamed "strings.asciiSpace" = some 0 by kernel_rfl]
  simp only [Option.bind_some]
  rw [e]
theorem qko {w : World} (h : Kept w) : ∃ t p, w.cell? ⟨2, 0, none⟩ = some (.iface t p) := by
  obtain ⟨c, t, z, e, ⟨tp, p, rfl⟩⟩ := h _ (List.Mem.tail _ (List.Mem.tail _ (List.Mem.head _)))
  exact ⟨tp, p, by simp only [World.cell?]; rw [e]; rfl⟩
theorem qji {w : World} (h : Kept w) : ∃ t p, w.cell? ⟨3, 0, none⟩ = some (.iface t p) := by
  obtain ⟨c, t, z, e, ⟨tp, p, rfl⟩⟩ := h _ (List.Mem.tail _ (List.Mem.tail _ (List.Mem.tail _ (List.Mem.head _))))
  exact ⟨tp, p, by simp only [World.cell?]; rw [e]; rfl⟩
theorem qkz {w : World} {nm : String} {g : Nat} {c : Array Value} (hg : Tryd.prog.globalNamed nm = some g) (h : w.var? Tryd.prog nm = some c) : ∃ t z, w.heap[g]? = some (.cells c t z) := by
  unfold World.var? at h
  rw [hg] at h
  simp only [Option.bind_some] at h
  split at h
  · rename_i cs t z e
    exact ⟨t, z, by rw [e]; rw [Option.some.inj h]⟩
  · cases h
theorem kept_of4 {w : World} {n1 n2 n3 n4 : String} (g1 : Tryd.prog.globalNamed n1 = some 5) (g2 : Tryd.prog.globalNamed n2 = some 0) (g3 : Tryd.prog.globalNamed n3 = some 2) (g4 : Tryd.prog.globalNamed n4 = some 3)
    (h1 : Lib.TabIs Tryd.prog w n1 .u64 Lib.pow10Tab) (h2 : Lib.TabIs Tryd.prog w n2 .u8 Lib.asciiSpaceTab) (h3 : ∃ t p, w.var? Tryd.prog n3 = some #[.iface t p]) (h4 : ∃ t p, w.var? Tryd.prog n4 = some #[.iface t p]) : Kept w := by
  intro x hx
  simp only [tabs, List.mem_cons, List.not_mem_nil, or_false] at hx
  rcases hx with rfl | rfl | rfl | rfl
  · obtain ⟨t, z, e⟩ := qkz g1 h1
    exact ⟨_, t, z, e, rfl⟩
  · obtain ⟨t, z, e⟩ := qkz g2 h2
    exact ⟨_, t, z, e, rfl⟩
  · obtain ⟨tp, p, h⟩ := h3
    obtain ⟨t, z, e⟩ := qkz g3 h
    exact ⟨_, t, z, e, tp, p, rfl⟩
  · obtain ⟨tp, p, h⟩ := h4
    obtain ⟨t, z, e⟩ := qkz g4 h
    exact ⟨_, t, z, e, tp, p, rfl⟩
theorem qdo : ∀ (l : List UInt8) (ws : Bool), Lib.cntF ws l ≤ l.length
  | [], ws => by simp [Lib.cntF]
  | b :: l, ws => by
    have := qdo l (Lib.isSp b)
    simp only [Lib.cntF, List.length_cons]
    split <;> omega
theorem qfy (l : List UInt8) : (Lib.fields l).length ≤ l.length := by rw [Lib.fields_length]; exact qdo l true
theorem qiz (l : List ByteArray) : okTs Tryd.prog [55] [.arr true false (.strs l)] = true := by kernel_rfl
theorem qgx (ds rs : List D) (h : fldGo ds = some rs) : Contract Tryd.prog 99 [] ds rs := by
  unfold fldGo at h
  split at h
  · rename_i s
    cases hn : (decide (s.size ≤ 1000) && s.data.toList.all fun b => decide (b.toNat < 128))
    · rw [hn] at h; cases h
    rw [hn] at h
    have h := Option.some.inj (show some _ = some rs from h)
    subst h
    simp only [Bool.and_eq_true, decide_eq_true_eq, List.all_eq_true] at hn
    obtain ⟨hs, ha⟩ := hn
    refine fresh_contract (fn := Tryd.f99) Tryd.func99 (by kernel_rfl) (qiz _) (fun w args FF hk hd => ?_)
    simp only [RepDs, RepD] at hd
    obtain ⟨u, us, F1, F2, e0, rfl, ⟨rfl, rfl⟩, rfl, rfl⟩ := hd
    have ha' : args = #[.string s] := by rw [← Array.toArray_toList (xs := args), e0]
    subst ha'
    refine (Any.strings_Fields Tryd.lays157 (by kernel_rfl) (by kernel_rfl) s w (by omega) (fun j b hj => ha b (List.mem_of_getElem? hj)) (qkc hk)).mono ?_
    rintro e w' ⟨rfl, rfl⟩
    have hl : (wordsL s.data.toList).length = (Lib.fields s.data.toList).length := List.length_map ..
    have hb : (Lib.fields s.data.toList).length ≤ 1000000 := by
      have := qfy s.data.toList
      have hz : s.data.toList.length = s.size := (Lib.size_eq s).symm
      omega
    obtain ⟨F, h1, h2, h3⟩ := strs_new w (wordsL s.data.toList) 9 (by omega)
    rw [hl] at h1
    have hm : ((wordsL s.data.toList).map fun s => Value.string s) = (Lib.fields s.data.toList).map fun l => Value.string ⟨l.toArray⟩ := by unfold wordsL; rw [List.map_map]; rfl
    rw [hm] at h1
    exact ⟨_, F, rfl, rfl, rfl, h1, h2, h3, (Below.refl _ w).alloc (Nat.le_refl _) _⟩
  · cases h
theorem qiy (s : ByteArray) : okTs Tryd.prog [9] [.str s] = true := by kernel_rfl
theorem qg0 (ds rs : List D) (h : joinGo ds = some rs) : Contract Tryd.prog 63 [] ds rs := by
  unfold joinGo at h
  split at h
  · rename_i z l sep
    cases hn : (decide ((joinL l sep).length ≤ 100000) && decide (l.length ≤ 100000))
    · rw [hn] at h; cases h
    rw [hn] at h
    have h := Option.some.inj (show some _ = some rs from h)
    subst h
    simp only [Bool.and_eq_true, decide_eq_true_eq] at hn
    obtain ⟨h1, h2⟩ := hn
    refine str_contract (fn := Tryd.f63) (S := 9) Tryd.func63 (by kernel_rfl) (by kernel_rfl) (qiy _) (fun w args FF hk hd => ?_)
    simp only [RepDs, RepD] at hd
    obtain ⟨u0, us0, F0, F0', e0, rfl, ⟨p, rfl, rp, rfl⟩, u1, us1, F1, F1', rfl, rfl, ⟨rfl, rfl⟩, rfl, rfl⟩ := hd
    have ha : args = #[.slice p.base p.len p.cap, .string sep] := by rw [← Array.toArray_toList (xs := args), e0]
    subst ha
    obtain ⟨r1, r2, r3, r4, r5, r6⟩ := rp
    have r1' : l.length = p.len := r1
    cases l with
    | nil =>
      have r0 : p.len = 0 := r1'.symm
      rw [r0]
      refine (Any.strings_Join_none Tryd.lays156 Tryd.Builder_Extra_156 p.base p.cap sep w).mono ?_
      rintro e w' ⟨rfl, rfl⟩
      exact ⟨rfl, Below.refl _ _⟩
    | cons x l =>
      cases hb : p.base with
      | none => have := (r4 hb).2; simp at r1'; omega
      | some b =>
        obtain ⟨hc, hcl⟩ := r5 b hb
        have h0 : w.cell? (b.add 0) = some (.string x) := hcl 0 _ rfl
        have sp := World.cell?_spot h0
        have hlt := World.block_lt_of_cell? w _ h0
        obtain ⟨bk, o, spt⟩ := b
        have sp' : spt = none := sp
        subst sp'
        rw [← r1']
        refine Any.strings_Join Tryd.lays156 Tryd.Builder_Extra_156 bk o p.cap (x :: l) sep w (fun j y hj => ?_) hlt (by omega) (by omega) ?_
        · have := hcl j (.string y) (by show ((x :: l).map fun s => Value.string s)[j]? = _; rw [List.getElem?_map, hj]; rfl)
          rwa [Addr.add_lit] at this
        · exact Nat.le_trans h1 (by omega)
  · cases h
theorem toL (s : ByteArray) : s.toList = s.data.toList := by
  obtain ⟨⟨l⟩⟩ := s
  simp
theorem qa3 {w w' : World} {T : TypeId} (h : w' = w ∨ ∃ t, w' = Lib.bytesWorld w T t) : Below w.heap.size w w' := by
  rcases h with rfl | ⟨t, rfl⟩
  · exact Below.refl _ _
  · exact Lib.bytesWorld_below _ _ _
theorem qi7 (s : ByteArray) (v : Int) (h : Lib.atoiAll s.data.toList = .ok v) (hs : s.size ≤ 1000) (w : World) (hk : Kept w) : Calls Tryd.prog 62 #[.string s] w fun e w' => e = .returned (.tuple #[.int .i64 v, .bool (decide (Lib.itoa v = s.data.toList))]) ∧ Below w.heap.size w w' := by
  obtain ⟨v0, v1⟩ := Lib.atoiAll_bounds h
  have hv : inI64 v = true := by unfold inI64; rw [decide_eq_true v0, decide_eq_true v1]; rfl
  have cA := Any.strconv_Atoi_ok Tryd.laysC172 s (by omega) v h w
  have H := Hid.mk' hv
  clear hv h
  go_enter Tryd.func62, Tryd.ntmps62
  go_wp2_with (go_at_call 100; refine cA.mono ?_)
  rintro e W1 ⟨rfl, hw⟩
  have b1 := qa3 hw
  clear hw cA
  have cF := qf6 v H.out W1 (qg4 hk b1)
  go_wp2_with (go_at_call 37; refine cF.mono ?_)
  rintro e W2 ⟨rfl, b2⟩
  clear cF
  go_wp2
  go_ret2
  refine ⟨?_, b1.trans (b2.mono b1.size)⟩
  show Ending.returned (.tuple #[.int .i64 v, .bool (Lib.itoa v == s.toList)]) = _
  rw [show (Lib.itoa v == s.toList) = decide (Lib.itoa v = s.data.toList) by rw [Bool.eq_iff_iff]; simp [toL]]
theorem qi9 (s : ByteArray) (h : Lib.atoiAll s.data.toList = Lib.atoiAll []) (hs : s.size ≤ 1000) (w : World) (hk : Kept w) : Calls Tryd.prog 62 #[.string s] w fun e w' => e = .returned (.tuple #[.int .i64 0, .bool false]) ∧ Below w.heap.size w w' := by
  obtain ⟨tp, p, hv⟩ := qko hk
  have cA := Any.strconv_Atoi_syntax Tryd.laysC172 s (by omega) h (.iface tp p) w hv (Or.inr ⟨tp, p, rfl⟩)
  clear h hv
  go_enter Tryd.func62, Tryd.ntmps62
  go_wp2_with (go_at_call 100; refine cA.mono ?_)
  rintro e W1 ⟨N, rfl, _, _, b1⟩
  clear cA
  go_wp2
  go_ret2
  exact ⟨rfl, b1⟩
theorem qi8 (s : ByteArray) (h : Lib.atoiAll s.data.toList = .range) (hs : s.size ≤ 1000) (w : World) (hk : Kept w) : Calls Tryd.prog 62 #[.string s] w fun e w' => e = .returned (.tuple #[.int .i64 (Lib.atoiSat s.data.toList), .bool false]) ∧ Below w.heap.size w w' := by
  obtain ⟨tp, p, hv⟩ := qji hk
  have cA := Any.strconv_Atoi_range Tryd.laysC172 s (by omega) h (.iface tp p) w hv (Or.inr ⟨tp, p, rfl⟩)
  clear h hv
  generalize Lib.atoiSat s.data.toList = sat at cA ⊢
  go_enter Tryd.func62, Tryd.ntmps62
  go_wp2_with (go_at_call 100; refine cA.mono ?_)
  rintro e W1 ⟨N, rfl, _, _, b1⟩
  clear cA
  go_wp2
  go_ret2
  exact ⟨rfl, b1⟩
theorem qiv (v : Int) (b : Bool) : okTs Tryd.prog [3, 4] [.int .i64 v, .bool b] = true := by kernel_rfl
theorem qg2 (ds rs : List D) (h : pnumGo ds = some rs) : Contract Tryd.prog 62 [] ds rs := by
  unfold pnumGo at h
  split at h
  · rename_i s
    cases hn : decide (s.size ≤ 1000)
    · rw [hn] at h; cases h
    rw [hn] at h
    have h := Option.some.inj (show some _ = some rs from h)
    subst h
    have hs : s.size ≤ 1000 := of_decide_eq_true hn
    refine fresh_contract (fn := Tryd.f62) Tryd.func62 (by kernel_rfl) (qiv _ _) (fun w args FF hk hd => ?_)
    simp only [RepDs, RepD] at hd
    obtain ⟨u, us, F1, F2, e0, rfl, ⟨rfl, rfl⟩, rfl, rfl⟩ := hd
    have ha' : args = #[.string s] := by rw [← Array.toArray_toList (xs := args), e0]
    subst ha'
    have fin : ∀ (v : Int) (b : Bool) (e : Ending) (w' : World), e = .returned (.tuple #[.int .i64 v, .bool b]) ∧ Below w.heap.size w w' → ∃ outs F', e = .returned (retVal outs) ∧ outs.length = Tryd.f62.resultTypes.size ∧ [D.int .i64 v, D.bool b].length = Tryd.f62.resultTypes.size ∧ RepDs w' [D.int .i64 v, D.bool b] outs F' ∧ Go.Ev.Sep F' ∧ (∀ b off, ownOf F' b off → w.heap.size ≤ b) ∧ Below w.heap.size w w' := by
      rintro v b e w' ⟨rfl, hb⟩
      refine ⟨[.int .i64 v, .bool b], [], rfl, rfl, rfl, ?_, by simp [Go.Ev.Sep], ?_, hb⟩
      · simp only [RepDs, RepD]
        exact ⟨_, _, [], [], rfl, rfl, ⟨rfl, rfl⟩, _, [], [], [], rfl, rfl, ⟨rfl, rfl⟩, rfl, rfl⟩
      · rintro x off ⟨A, hA, _⟩; cases hA
    rcases hA : Lib.atoiAll s.data.toList with v | _ | _
    · have e1 : atoiV s.data.toList = v := by unfold atoiV; rw [hA]
      have e2 : atoiB s.data.toList = decide (Lib.itoa v = s.data.toList) := by unfold atoiB; rw [hA]
      rw [e1, e2]
      exact (qi7 s v hA hs w hk).mono (fin _ _)
    · have e1 : atoiV s.data.toList = 0 := by unfold atoiV; rw [hA]
      have e2 : atoiB s.data.toList = false := by unfold atoiB; rw [hA]
      rw [e1, e2]
      exact (qi9 s (hA.trans rfl) hs w hk).mono (fin _ _)
    · have e1 : atoiV s.data.toList = Lib.atoiSat s.data.toList := by unfold atoiV; rw [hA]
      have e2 : atoiB s.data.toList = false := by unfold atoiB; rw [hA]
      rw [e1, e2]
      exact (qi8 s hA hs w hk).mono (fin _ _)
  · cases h
end Go.Proofs.YtjfjniebmdafeaaDoor
end
section
namespace Go.Proofs.YtjfjniebmdafeaaDoor
open Go.RowKit Go.Lib Go.Ev Go.Shelf Go.Sort
theorem qiw (s : ByteArray) : okTs Tryd.prog [9] [.str s] = true := by kernel_rfl
theorem qgz (ds rs : List D) (h : itoaGo ds = some rs) : Contract Tryd.prog 76 [] ds rs := by
  unfold itoaGo at h
  split at h
  · rename_i n
    cases hn : inI64 n
    · rw [hn] at h; cases h
    rw [hn] at h
    have h := Option.some.inj (show some _ = some rs from h)
    subst h
    refine str_contract (fn := Tryd.f76) (S := 9) Tryd.func76 (by kernel_rfl) (by kernel_rfl) (qiw _) (fun w args FF hk hd => ?_)
    simp only [RepDs, RepD] at hd
    obtain ⟨u, us, F1, F2, e0, rfl, ⟨rfl, rfl⟩, rfl, rfl⟩ := hd
    have ha : args = #[.int .i64 n] := by rw [← Array.toArray_toList (xs := args), e0]
    subst ha
    exact qgp n hn w hk
  · cases h
theorem qg3 (ds rs : List D) (h : spacedGo ds = some rs) : Contract Tryd.prog 36 [] ds rs := by
  unfold spacedGo at h
  split at h
  · rename_i wd z l
    cases hn : (decide (wd.size ≤ 1000) && (decide (l.length ≤ 1000) && l.all inI64))
    · rw [hn] at h; cases h
    rw [hn] at h
    have h := Option.some.inj (show some _ = some rs from h)
    subst h
    simp only [Bool.and_eq_true, decide_eq_true_eq, List.all_eq_true] at hn
    obtain ⟨hw, hl, hx⟩ := hn
    refine str_contract (fn := Tryd.f36) (S := 9) Tryd.func36 (by kernel_rfl) (by kernel_rfl) (qiw _) (fun w args FF hk hd => ?_)
    simp only [RepDs, RepD] at hd
    obtain ⟨u0, us0, F0, F0', e0, rfl, ⟨rfl, rfl⟩, u1, us1, F1, F1', rfl, rfl, ⟨p, rfl, rp, rfl⟩, rfl, rfl⟩ := hd
    have ha : args = #[.string wd, .slice p.base p.len p.cap] := by rw [← Array.toArray_toList (xs := args), e0]
    subst ha
    obtain ⟨r1, r2, r3, r4, r5, r6⟩ := rp
    have r1' : l.length = p.len := r1
    cases hb : p.base with
    | none =>
      have h0 := (r4 hb).2
      have : l = [] := List.eq_nil_of_length_eq_zero (by omega)
      subst this
      rw [h0]
      exact qka wd p.cap w hk hw
    | some b =>
      have hc := (r5 b hb).2
      rw [← r1']
      refine qkb wd l b p.cap w hk hw hl hx (fun i x hi => hc i _ ?_)
      show (l.map fun n => Value.int .i64 n)[i]? = _
      rw [List.getElem?_map, hi]; rfl
  · cases h
theorem withExt : ∀ f g, An.ext f = some g → ∀ ds rs, g ds = some rs → Contract Tryd.prog f (An.mode f) ds rs := by
  intro f g h ds rs hd
  by_cases h0 : f = 76
  · subst h0
    have e : An.ext 76 = some itoaGo := rfl
    rw [e] at h; cases h
    exact qgz ds rs hd
  by_cases h1 : f = 36
  · subst h1
    have e : An.ext 36 = some spacedGo := rfl
    rw [e] at h; cases h
    exact qg3 ds rs hd
  by_cases h2 : f = 49
  · subst h2
    have e : An.ext 49 = some fmeshGo := rfl
    rw [e] at h; cases h
    exact qgy ds rs hd
  by_cases h3 : f = 99
  · subst h3
    have e : An.ext 99 = some fldGo := rfl
    rw [e] at h; cases h
    exact qgx ds rs hd
  by_cases h4 : f = 63
  · subst h4
    have e : An.ext 63 = some joinGo := rfl
    rw [e] at h; cases h
    exact qg0 ds rs hd
  by_cases h5 : f = 62
  · subst h5
    have e : An.ext 62 = some pnumGo := rfl
    rw [e] at h; cases h
    exact qg2 ds rs hd
  have n0 : Nat.beq f 76 = false := by cases b : Nat.beq f 76 with | false => rfl | true => exact absurd (Nat.eq_of_beq_eq_true b) h0
  have n1 : Nat.beq f 36 = false := by cases b : Nat.beq f 36 with | false => rfl | true => exact absurd (Nat.eq_of_beq_eq_true b) h1
  have n2 : Nat.beq f 49 = false := by cases b : Nat.beq f 49 with | false => rfl | true => exact absurd (Nat.eq_of_beq_eq_true b) h2
  have n3 : Nat.beq f 99 = false := by cases b : Nat.beq f 99 with | false => rfl | true => exact absurd (Nat.eq_of_beq_eq_true b) h3
  have n4 : Nat.beq f 63 = false := by cases b : Nat.beq f 63 with | false => rfl | true => exact absurd (Nat.eq_of_beq_eq_true b) h4
  have n5 : Nat.beq f 62 = false := by cases b : Nat.beq f 62 with | false => rfl | true => exact absurd (Nat.eq_of_beq_eq_true b) h5
  have e : An.ext f = none := by show cond (Nat.beq f 76) (some itoaGo) (cond (Nat.beq f 36) (some spacedGo) (cond (Nat.beq f 49) (some fmeshGo) (cond (Nat.beq f 99) (some fldGo) (cond (Nat.beq f 63) (some joinGo) (cond (Nat.beq f 62) (some pnumGo) (none)))))) = none; rw [n0, n1, n2, n3, n4, n5]; rfl
  rw [e] at h; cases h
theorem qbt (k : Nat) (wd : ByteArray) (z : Bool) (l : List Int) (hw : wd.size ≤ 1000) (hl : l.length ≤ 1000) (hx : l.all inI64 = true) : go (k + 1) impl_spaced [.str wd, .arr false z (.ints .i64 l)] = some [.str ⟨(spacedL wd.data.toList l).toArray⟩] := by
  have e : go (k + 1) impl_spaced [.str wd, .arr false z (.ints .i64 l)] = spacedGo [.str wd, .arr false z (.ints .i64 l)] := Eq.trans rfl rfl
  rw [e]; show (bif (decide (wd.size ≤ 1000) && (decide (l.length ≤ 1000) && l.all inI64)) then some [D.str ⟨(spacedL wd.data.toList l).toArray⟩] else none) = _; rw [hx, decide_eq_true hw, decide_eq_true hl]; rfl
theorem qcu (k : Nat) (s : ByteArray) (hs : s.size ≤ 1000) (ha : (s.data.toList.all fun b => decide (b.toNat < 128)) = true) : go (k + 1) strings_Fields [.str s] = some [.arr true false (.strs (wordsL s.data.toList))] := by
  have e : go (k + 1) strings_Fields [.str s] = fldGo [.str s] := Eq.trans rfl rfl
  rw [e]; show (bif (decide (s.size ≤ 1000) && s.data.toList.all fun b => decide (b.toNat < 128)) then some [D.arr true false (.strs (wordsL s.data.toList))] else none) = _; rw [ha, decide_eq_true hs]; rfl
theorem qcv (k : Nat) (z : Bool) (l : List ByteArray) (sep : ByteArray) (h1 : (joinL l sep).length ≤ 100000) (h2 : l.length ≤ 100000) : go (k + 1) strings_Join [.arr false z (.strs l), .str sep] = some [.str ⟨(joinL l sep).toArray⟩] := by
  have e : go (k + 1) strings_Join [.arr false z (.strs l), .str sep] = joinGo [.arr false z (.strs l), .str sep] := Eq.trans rfl rfl
  rw [e]; show (bif (decide ((joinL l sep).length ≤ 100000) && decide (l.length ≤ 100000)) then some [D.str ⟨(joinL l sep).toArray⟩] else none) = _; rw [decide_eq_true h1, decide_eq_true h2]; rfl
theorem qbs (k : Nat) (s : ByteArray) (hs : s.size ≤ 1000) : go (k + 1) impl_parseNumber [.str s] = some [.int .i64 (atoiV s.data.toList), .bool (atoiB s.data.toList)] := by
  have e : go (k + 1) impl_parseNumber [.str s] = pnumGo [.str s] := Eq.trans rfl rfl
  rw [e]; show (bif decide (s.size ≤ 1000) then some [D.int .i64 (atoiV s.data.toList), .bool (atoiB s.data.toList)] else none) = _; rw [decide_eq_true hs]; rfl
end Go.Proofs.YtjfjniebmdafeaaDoor
end
section
namespace Go.Proofs.YtjfjniebmdafeaaDoor
open Go.Ev
set_option maxRecDepth 20000
abbrev ba (l : List UInt8) : ByteArray := ⟨l.toArray⟩
theorem qau (a b : List UInt8) : ba a ++ ba b = ba (a ++ b) := by
  apply ByteArray.ext
  simp [ba, ByteArray.data_append]
theorem qax (a : List UInt8) : ByteArray.size (ba a) = a.length := List.size_toArray ..
theorem qaw (a : List UInt8) : (ba a).data.toList = a := Eq.trans rfl rfl
def decD (m : Nat) : List UInt8 := if h : m = 0 then [] else decD (m / 10) ++ [UInt8.ofNat (48 + m % 10)]
termination_by m
decreasing_by omega
theorem qdy : ∀ (m : Nat), m ≠ 0 → decD m = Lib.decDigits m := by
  intro m
  induction m using Nat.strongRecOn with
  | _ m ih =>
    intro h
    rw [decD, dif_neg h, Lib.decDigits]
    by_cases g : m < 10
    · rw [dif_pos g, show m / 10 = 0 by omega, show m % 10 = m by omega, decD, dif_pos rfl, List.nil_append]
    · rw [dif_neg g, ih (m / 10) (by omega) (by omega)]
end Go.Proofs.YtjfjniebmdafeaaDoor
end
