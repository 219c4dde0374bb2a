/- What the program's functions compute, and plain facts of it (part 1). No condition beyond those that each theorem states. -/
import Derived.Test.YtcaapedadpnjoaaXA
import Derived.ProofKit
import Derived.Test.YtcaapedadpnjoaaMH
import Derived.Deep.MidRow
import Derived.Deep.QuietTactic
import Derived.BigQuiet
set_option linter.unusedVariables false
set_option linter.unusedSimpArgs false
section
namespace Go.Proofs.Ytcaapedadpnjoaa
open Go.Ev
abbrev L3 := List (Int × Int × Int)
abbrev L4 := List (Int × Int × Int × Int)
abbrev LI := List Int
abbrev FU := List (Nat × Nat)
def wC (o : Bool) (d : D) : D := .agg [.int .i64 (D.toInt (D.cell 0 d)), .arr o (D.nil (D.cell 1 d)) (.r3 (D.r3 (D.cell 1 d))), .arr o (D.nil (D.cell 2 d)) (.ints .i64 (D.ints (D.cell 2 d))), .arr o (D.nil (D.cell 3 d)) (.ints .i64 (D.ints (D.cell 3 d))), .arr o (D.nil (D.cell 4 d)) (.ints .i64 (D.ints (D.cell 4 d))), .int .i64 (D.toInt (D.cell 5 d)), .int .i64 (D.toInt (D.cell 6 d)), .int .i64 (D.toInt (D.cell 7 d)), .int .i64 (D.toInt (D.cell 8 d)), .int .i64 (D.toInt (D.cell 9 d)), .int .i64 (D.toInt (D.cell 10 d)), .int .i64 (D.toInt (D.cell 11 d)), .int .i64 (D.toInt (D.cell 12 d)), .int .i64 (D.toInt (D.cell 13 d)), .int .i64 (D.toInt (D.cell 14 d)), .int .i64 (D.toInt (D.cell 15 d)), .int .i64 (D.toInt (D.cell 16 d)), .int .i64 (D.toInt (D.cell 17 d)), .int .i64 (D.toInt (D.cell 18 d)), .int .i64 (D.toInt (D.cell 19 d)), .int .i64 (D.toInt (D.cell 20 d))]
theorem wCe (o : Bool) (d : D) : wC o d = .agg [.int .i64 (D.toInt (D.cell 0 d)), .arr o (D.nil (D.cell 1 d)) (.r3 (D.r3 (D.cell 1 d))), .arr o (D.nil (D.cell 2 d)) (.ints .i64 (D.ints (D.cell 2 d))), .arr o (D.nil (D.cell 3 d)) (.ints .i64 (D.ints (D.cell 3 d))), .arr o (D.nil (D.cell 4 d)) (.ints .i64 (D.ints (D.cell 4 d))), .int .i64 (D.toInt (D.cell 5 d)), .int .i64 (D.toInt (D.cell 6 d)), .int .i64 (D.toInt (D.cell 7 d)), .int .i64 (D.toInt (D.cell 8 d)), .int .i64 (D.toInt (D.cell 9 d)), .int .i64 (D.toInt (D.cell 10 d)), .int .i64 (D.toInt (D.cell 11 d)), .int .i64 (D.toInt (D.cell 12 d)), .int .i64 (D.toInt (D.cell 13 d)), .int .i64 (D.toInt (D.cell 14 d)), .int .i64 (D.toInt (D.cell 15 d)), .int .i64 (D.toInt (D.cell 16 d)), .int .i64 (D.toInt (D.cell 17 d)), .int .i64 (D.toInt (D.cell 18 d)), .int .i64 (D.toInt (D.cell 19 d)), .int .i64 (D.toInt (D.cell 20 d))] := Eq.trans rfl rfl
def wA {α : Type} (f : Bool → L3 → Bool → LI → Bool → LI → Bool → LI → Int → Int → Int → Int → Int → Int → Int → Int → Int → Int → Int → Int → Int → Int → Int → Int → Int → α) (d : D) : α := f (D.nil (D.cell 1 d)) (D.r3 (D.cell 1 d)) (D.nil (D.cell 2 d)) (D.ints (D.cell 2 d)) (D.nil (D.cell 3 d)) (D.ints (D.cell 3 d)) (D.nil (D.cell 4 d)) (D.ints (D.cell 4 d)) (D.toInt (D.cell 0 d)) (D.toInt (D.cell 5 d)) (D.toInt (D.cell 6 d)) (D.toInt (D.cell 7 d)) (D.toInt (D.cell 8 d)) (D.toInt (D.cell 9 d)) (D.toInt (D.cell 10 d)) (D.toInt (D.cell 11 d)) (D.toInt (D.cell 12 d)) (D.toInt (D.cell 13 d)) (D.toInt (D.cell 14 d)) (D.toInt (D.cell 15 d)) (D.toInt (D.cell 16 d)) (D.toInt (D.cell 17 d)) (D.toInt (D.cell 18 d)) (D.toInt (D.cell 19 d)) (D.toInt (D.cell 20 d))
theorem wAe {α : Type} (f : Bool → L3 → Bool → LI → Bool → LI → Bool → LI → Int → Int → Int → Int → Int → Int → Int → Int → Int → Int → Int → Int → Int → Int → Int → Int → Int → α) (d : D) : wA f d = f (D.nil (D.cell 1 d)) (D.r3 (D.cell 1 d)) (D.nil (D.cell 2 d)) (D.ints (D.cell 2 d)) (D.nil (D.cell 3 d)) (D.ints (D.cell 3 d)) (D.nil (D.cell 4 d)) (D.ints (D.cell 4 d)) (D.toInt (D.cell 0 d)) (D.toInt (D.cell 5 d)) (D.toInt (D.cell 6 d)) (D.toInt (D.cell 7 d)) (D.toInt (D.cell 8 d)) (D.toInt (D.cell 9 d)) (D.toInt (D.cell 10 d)) (D.toInt (D.cell 11 d)) (D.toInt (D.cell 12 d)) (D.toInt (D.cell 13 d)) (D.toInt (D.cell 14 d)) (D.toInt (D.cell 15 d)) (D.toInt (D.cell 16 d)) (D.toInt (D.cell 17 d)) (D.toInt (D.cell 18 d)) (D.toInt (D.cell 19 d)) (D.toInt (D.cell 20 d)) := Eq.trans rfl rfl
def sC (o : Bool) (d : D) : D := .agg [.int .i64 (D.toInt (D.cell 0 d)), .arr o (D.nil (D.cell 1 d)) (.r3 (D.r3 (D.cell 1 d))), .arr o (D.nil (D.cell 2 d)) (.ints .i64 (D.ints (D.cell 2 d))), .arr o (D.nil (D.cell 3 d)) (.ints .i64 (D.ints (D.cell 3 d))), .arr o (D.nil (D.cell 4 d)) (.ints .i64 (D.ints (D.cell 4 d)))]
theorem sCe (o : Bool) (d : D) : sC o d = .agg [.int .i64 (D.toInt (D.cell 0 d)), .arr o (D.nil (D.cell 1 d)) (.r3 (D.r3 (D.cell 1 d))), .arr o (D.nil (D.cell 2 d)) (.ints .i64 (D.ints (D.cell 2 d))), .arr o (D.nil (D.cell 3 d)) (.ints .i64 (D.ints (D.cell 3 d))), .arr o (D.nil (D.cell 4 d)) (.ints .i64 (D.ints (D.cell 4 d)))] := Eq.trans rfl rfl
def sA {α : Type} (f : Bool → L3 → Bool → LI → Bool → LI → Bool → LI → Int → α) (d : D) : α := f (D.nil (D.cell 1 d)) (D.r3 (D.cell 1 d)) (D.nil (D.cell 2 d)) (D.ints (D.cell 2 d)) (D.nil (D.cell 3 d)) (D.ints (D.cell 3 d)) (D.nil (D.cell 4 d)) (D.ints (D.cell 4 d)) (D.toInt (D.cell 0 d))
theorem sAe {α : Type} (f : Bool → L3 → Bool → LI → Bool → LI → Bool → LI → Int → α) (d : D) : sA f d = f (D.nil (D.cell 1 d)) (D.r3 (D.cell 1 d)) (D.nil (D.cell 2 d)) (D.ints (D.cell 2 d)) (D.nil (D.cell 3 d)) (D.ints (D.cell 3 d)) (D.nil (D.cell 4 d)) (D.ints (D.cell 4 d)) (D.toInt (D.cell 0 d)) := Eq.trans rfl rfl
abbrev sB (o : Bool) (j : Nat) (a : Int) : Ent := .box o [.int .i64 a, .sl j none, .sl (j + 1) none, .sl (j + 2) none, .sl (j + 3) none]
end Go.Proofs.Ytcaapedadpnjoaa
end
section
namespace Go.Proofs.Ytcaapedadpnjoaa
open Go.Ev
set_option maxRecDepth 20000
theorem qc9 (k : Nat) (a0 a1 : Int) (a2z : Bool) (a2 : L3) (a3 a4 a5 : Int) (a6z : Bool) (a6 : LI) : go (k + 1) laws_toFrame [.agg [.int .i64 a0, .int .i64 a1, .arr false a2z (.r3 a2), .int .i64 a3, .int .i64 a4, .int .i64 a5, .arr false a6z (.ints .i64 a6)]] =
 (go k laws_toMesh [.agg [.int .i64 a1, .arr false a2z (.r3 a2)]]).bind fun r0 =>
 (go k laws_toIntS [.arr false a6z (.ints .i64 a6)]).bind fun r1 =>
 some [.agg [.int .i64 a0, .int .i64 (D.toInt (D.cell 0 (nth r0 0))), .arr true (D.nil (D.cell 1 (nth r0 0))) (.r3 (D.r3 (D.cell 1 (nth r0 0)))), .int .i64 a3, .int .i64 a4, .int .i64 a5, .arr true (D.nil (nth r1 0)) (.ints .i64 (D.ints (nth r1 0)))]] := by kernel_rfl

end Go.Proofs.Ytcaapedadpnjoaa
end
section
namespace Go.Proofs.Ytcaapedadpnjoaa
open Go.Ev
theorem qda (k : Nat) (a0 a1 a2 : Int) : go (k + 1) laws_toId [.agg [.int .i64 a0, .int .i64 a1, .int .i64 a2]] =
 some [.agg [.int .i64 a0, .int .i64 a1, .int .i64 a2]] := by kernel_rfl
def qfo (x0 : Int) (z1 : Bool) (l2 : L3) (z3 : Bool) (l4 : L3) : St := ⟨fill 23 [(0, .sl 0 none), (3, .sl 1 none), (4, .int .i64 x0)], [], [.arr false z1 (.r3 l2), .arr true z3 (.r3 l4)]⟩
theorem qdb (k : Nat) (az : Bool) (a : L3) : go (k + 1) laws_toIdS [.arr false az (.r3 a)] =
 cond (decide (0 ≤ nI (List.length a)) && decide (nI (List.length a) ≤ nI (List.length a)) && decide (nI (List.length a) ≤ nI bigLen))
 (lp k laws_toIdS [] [] 3 k (qfo 0 az a false (List.replicate (Int.toNat (nI (List.length a))) zz3)))
 none := by kernel_rfl
theorem qd6 (k n : Nat) (fu : FU) (x0 : Int) (z1 : Bool) (l2 : L3) (z3 : Bool) (l4 : L3) : lp k laws_toIdS [] fu 3 (n + 1) (qfo x0 z1 l2 z3 l4) =
 cond (decide (x0 < nI (List.length l2)))
 (cond (decide (0 ≤ x0) && decide (x0 < nI (List.length l2)))
 ((go k laws_toId [.agg [.int .i64 (Prod.fst (List.getD l2 (Int.toNat x0) zz3)), .int .i64 (Prod.fst (Prod.snd (List.getD l2 (Int.toNat x0) zz3))), .int .i64 (Prod.snd (Prod.snd (List.getD l2 (Int.toNat x0) zz3)))]]).bind fun r0 =>
 cond (decide (0 ≤ x0) && decide (x0 < nI (List.length l4)))
 (lp k laws_toIdS [] fu 3 n (qfo (IntKind.wrap .i64 (x0 + 1)) z1 l2 z3 (List.set l4 (Int.toNat x0) (D.toInt (D.cell 0 (nth r0 0)), D.toInt (D.cell 1 (nth r0 0)), D.toInt (D.cell 2 (nth r0 0))))))
 none)
 none)
 (some [.arr true z3 (.r3 l4)]) := by kernel_rfl
theorem qdf (k : Nat) (a0 : Int) (a1z : Bool) (a1 : L3) : go (k + 1) laws_toMesh [.agg [.int .i64 a0, .arr false a1z (.r3 a1)]] =
 (go k laws_toIdS [.arr false a1z (.r3 a1)]).bind fun r0 =>
 some [.agg [.int .i64 a0, .arr true (D.nil (nth r0 0)) (.r3 (D.r3 (nth r0 0)))]] := by kernel_rfl
theorem qc5 (k : Nat) (az : Bool) (a : L3) (b : Int) : go (k + 1) laws_szIdS [.arr false az (.r3 a), .int .i64 b] =
 cond (decide (IntKind.wrap .i64 (b - nI (List.length a)) < 0))
 (some [.int .i64 ((-1 : Int))])
 (some [.int .i64 (IntKind.wrap .i64 (b - nI (List.length a)))]) := by kernel_rfl
theorem qc8 (k : Nat) (a0 : Int) (a1z : Bool) (a1 : L3) (b : Int) : go (k + 1) laws_szMesh [.agg [.int .i64 a0, .arr false a1z (.r3 a1)], .int .i64 b] =
 (go k laws_szIdS [.arr false a1z (.r3 a1), .int .i64 b]).bind fun r0 =>
 cond (decide (D.toInt (nth r0 0) < 0))
 (some [.int .i64 ((-1 : Int))])
 (some [.int .i64 (D.toInt (nth r0 0))]) := by kernel_rfl
theorem qcx (k : Nat) (a0 a1 a2 b0 b1 b2 : Int) : go (k + 1) laws_eqId [.agg [.int .i64 a0, .int .i64 a1, .int .i64 a2], .agg [.int .i64 b0, .int .i64 b1, .int .i64 b2]] =
 cond (!decide (a0 = b0))
 (some [.bool false])
 (cond (!decide (a1 = b1))
 (some [.bool false])
 (cond (!decide (a2 = b2))
 (some [.bool false])
 (some [.bool true]))) := by kernel_rfl
def qfk (x0 : Int) (z1 : Bool) (l2 : L3) (z3 : Bool) (l4 : L3) : St := ⟨fill 27 [(0, .sl 0 none), (1, .sl 1 none), (5, .int .i64 x0)], [], [.arr false z1 (.r3 l2), .arr false z3 (.r3 l4)]⟩
theorem qcy (k : Nat) (az : Bool) (a : L3) (bz : Bool) (b : L3) : go (k + 1) laws_eqIdS [.arr false az (.r3 a), .arr false bz (.r3 b)] =
 cond (!decide (nI (List.length a) = nI (List.length b)))
 (some [.bool false])
 (lp k laws_eqIdS [] [] 4 k (qfk 0 az a bz b)) := by kernel_rfl
theorem qd2 (k n : Nat) (fu : FU) (x0 : Int) (z1 : Bool) (l2 : L3) (z3 : Bool) (l4 : L3) : lp k laws_eqIdS [] fu 4 (n + 1) (qfk x0 z1 l2 z3 l4) =
 cond (decide (x0 < nI (List.length l2)))
 (cond (decide (0 ≤ x0) && decide (x0 < nI (List.length l2)))
 (cond (decide (0 ≤ x0) && decide (x0 < nI (List.length l4)))
 ((go k laws_eqId [.agg [.int .i64 (Prod.fst (List.getD l2 (Int.toNat x0) zz3)), .int .i64 (Prod.fst (Prod.snd (List.getD l2 (Int.toNat x0) zz3))), .int .i64 (Prod.snd (Prod.snd (List.getD l2 (Int.toNat x0) zz3)))], .agg [.int .i64 (Prod.fst (List.getD l4 (Int.toNat x0) zz3)), .int .i64 (Prod.fst (Prod.snd (List.getD l4 (Int.toNat x0) zz3))), .int .i64 (Prod.snd (Prod.snd (List.getD l4 (Int.toNat x0) zz3)))]]).bind fun r0 =>
 cond (!bit (nth r0 0))
 (some [.bool false])
 (lp k laws_eqIdS [] fu 4 n (qfk (IntKind.wrap .i64 (x0 + 1)) z1 l2 z3 l4)))
 none)
 none)
 (some [.bool true]) := by kernel_rfl
theorem qc2 (k : Nat) (a0 : Int) (a1z : Bool) (a1 : L3) (b0 : Int) (b1z : Bool) (b1 : L3) : go (k + 1) laws_eqMesh [.agg [.int .i64 a0, .arr false a1z (.r3 a1)], .agg [.int .i64 b0, .arr false b1z (.r3 b1)]] =
 cond (!decide (a0 = b0))
 (some [.bool false])
 ((go k laws_eqIdS [.arr false a1z (.r3 a1), .arr false b1z (.r3 b1)]).bind fun r0 =>
 cond (!bit (nth r0 0))
 (some [.bool false])
 (some [.bool true])) := by kernel_rfl
def qfp (x0 : Int) (z1 : Bool) (l2 : LI) (z3 : Bool) (l4 : LI) : St := ⟨fill 22 [(0, .sl 0 none), (3, .sl 1 none), (4, .int .i64 x0)], [], [.arr false z1 (.ints .i64 l2), .arr true z3 (.ints .i64 l4)]⟩
theorem qdc (k : Nat) (az : Bool) (a : LI) : go (k + 1) laws_toIntS [.arr false az (.ints .i64 a)] =
 cond (decide (0 ≤ nI (List.length a)) && decide (nI (List.length a) ≤ nI (List.length a)) && decide (nI (List.length a) ≤ nI bigLen))
 (lp k laws_toIntS [] [] 3 k (qfp 0 az a false (List.replicate (Int.toNat (nI (List.length a))) 0)))
 none := by kernel_rfl
theorem qd7 (k n : Nat) (fu : FU) (x0 : Int) (z1 : Bool) (l2 : LI) (z3 : Bool) (l4 : LI) : lp k laws_toIntS [] fu 3 (n + 1) (qfp x0 z1 l2 z3 l4) =
 cond (decide (x0 < nI (List.length l2)))
 (cond (decide (0 ≤ x0) && decide (x0 < nI (List.length l2)))
 (cond (decide (0 ≤ x0) && decide (x0 < nI (List.length l4)))
 (lp k laws_toIntS [] fu 3 n (qfp (IntKind.wrap .i64 (x0 + 1)) z1 l2 z3 (List.set l4 (Int.toNat x0) (List.getD l2 (Int.toNat x0) 0))))
 none)
 none)
 (some [.arr true z3 (.ints .i64 l4)]) := by kernel_rfl
theorem qc6 (k : Nat) (az : Bool) (a : LI) (b : Int) : go (k + 1) laws_szIntS [.arr false az (.ints .i64 a), .int .i64 b] =
 cond (decide (IntKind.wrap .i64 (b - nI (List.length a)) < 0))
 (some [.int .i64 ((-1 : Int))])
 (some [.int .i64 (IntKind.wrap .i64 (b - nI (List.length a)))]) := by kernel_rfl
def qfl (x0 : Int) (z1 : Bool) (l2 : LI) (z3 : Bool) (l4 : LI) : St := ⟨fill 26 [(0, .sl 0 none), (1, .sl 1 none), (5, .int .i64 x0)], [], [.arr false z1 (.ints .i64 l2), .arr false z3 (.ints .i64 l4)]⟩
theorem qcz (k : Nat) (az : Bool) (a : LI) (bz : Bool) (b : LI) : go (k + 1) laws_eqIntS [.arr false az (.ints .i64 a), .arr false bz (.ints .i64 b)] =
 cond (!decide (nI (List.length a) = nI (List.length b)))
 (some [.bool false])
 (lp k laws_eqIntS [] [] 4 k (qfl 0 az a bz b)) := by kernel_rfl
theorem qd3 (k n : Nat) (fu : FU) (x0 : Int) (z1 : Bool) (l2 : LI) (z3 : Bool) (l4 : LI) : lp k laws_eqIntS [] fu 4 (n + 1) (qfl x0 z1 l2 z3 l4) =
 cond (decide (x0 < nI (List.length l2)))
 (cond (decide (0 ≤ x0) && decide (x0 < nI (List.length l2)))
 (cond (decide (0 ≤ x0) && decide (x0 < nI (List.length l4)))
 (cond (!decide (List.getD l2 (Int.toNat x0) 0 = List.getD l4 (Int.toNat x0) 0))
 (some [.bool false])
 (lp k laws_eqIntS [] fu 4 n (qfl (IntKind.wrap .i64 (x0 + 1)) z1 l2 z3 l4)))
 none)
 none)
 (some [.bool true]) := by kernel_rfl
end Go.Proofs.Ytcaapedadpnjoaa
end
section
namespace Go.Proofs.Ytcaapedadpnjoaa
open Go.Ev
theorem qdn (k : Nat) (a b c : Int) : go (k + 1) spec_l01In [.int .i64 a, .int .i64 b, .int .i64 c] =
 cond (decide (b ≤ a))
 (some [.bool (decide (a ≤ c))])
 (some [.bool false]) := by kernel_rfl
theorem qcu (k : Nat) (a b c : Int) : go (k + 1) impl_within [.int .i64 a, .int .i64 b, .int .i64 c] =
 cond (decide (b ≤ a))
 (some [.bool (decide (a ≤ c))])
 (some [.bool false]) := by kernel_rfl
theorem qcr (k : Nat) (a : Int) : go (k + 1) impl_isLevel [.int .i64 a] =
 (go k impl_within [.int .i64 a, .int .i64 0, .int .i64 4]).bind fun r0 =>
 some [.bool (bit (nth r0 0))] := by kernel_rfl
theorem qdi (k : Nat) (a0 a1 a2 : Int) : go (k + 1) spec_IdOk [.agg [.int .i64 a0, .int .i64 a1, .int .i64 a2]] =
 (go k spec_l01In [.int .i64 a0, .int .i64 0, .int .i64 7]).bind fun r0 =>
 cond (bit (nth r0 0))
 ((go k spec_l01In [.int .i64 a1, .int .i64 0, .int .i64 4]).bind fun r1 =>
 cond (bit (nth r1 0))
 (cond (decide (0 ≤ a2))
 (cond (decide (0 ≤ IntKind.wrap IntKind.u64 a1))
 (some [.bool (decide (a2 < IntKind.wrap .i64 (1 * 2 ^ shiftN .i64 (IntKind.wrap IntKind.u64 a1))))])
 none)
 (some [.bool false]))
 (some [.bool false]))
 (some [.bool false]) := by kernel_rfl
theorem qcl (k : Nat) (a0 a1 a2 : Int) : go (k + 1) impl_IdOk [.agg [.int .i64 a0, .int .i64 a1, .int .i64 a2]] =
 (go k impl_within [.int .i64 a0, .int .i64 0, .int .i64 7]).bind fun r0 =>
 cond (bit (nth r0 0))
 ((go k impl_isLevel [.int .i64 a1]).bind fun r1 =>
 cond (bit (nth r1 0))
 (cond (decide (0 ≤ a1))
 ((go k impl_within [.int .i64 a2, .int .i64 0, .int .i64 (IntKind.wrap .i64 (IntKind.wrap .i64 (1 * 2 ^ shiftN .i64 a1) - 1))]).bind fun r2 =>
 some [.bool (bit (nth r2 0))])
 none)
 (some [.bool false]))
 (some [.bool false]) := by kernel_rfl
theorem qdm (k : Nat) (a : Int) : go (k + 1) spec_WidthOf [.int .i64 a] =
 (go k spec_l01In [.int .i64 a, .int .i64 0, .int .i64 4]).bind fun r0 =>
 cond (!bit (nth r0 0))
 (some [.int .i64 0])
 (cond (decide (0 ≤ IntKind.wrap IntKind.u64 a))
 (some [.int .i64 (Int.fdiv 16 (2 ^ shiftN .i64 (IntKind.wrap IntKind.u64 a)))])
 none) := by kernel_rfl
theorem qcp (k : Nat) (a : Int) : go (k + 1) impl_WidthOf [.int .i64 a] =
 (go k impl_isLevel [.int .i64 a]).bind fun r0 =>
 cond (!bit (nth r0 0))
 (some [.int .i64 0])
 (cond (decide (0 ≤ a))
 (some [.int .i64 (Int.fdiv 16 (2 ^ shiftN .i64 a))])
 none) := by kernel_rfl
theorem qdl (k : Nat) (a0 a1 a2 : Int) : go (k + 1) spec_StartOf [.agg [.int .i64 a0, .int .i64 a1, .int .i64 a2]] =
 (go k spec_IdOk [.agg [.int .i64 a0, .int .i64 a1, .int .i64 a2]]).bind fun r0 =>
 cond (!bit (nth r0 0))
 (some [.int .i64 ((-1 : Int))])
 ((go k spec_WidthOf [.int .i64 a1]).bind fun r1 =>
 some [.int .i64 (IntKind.wrap .i64 (IntKind.wrap .i64 (a0 * 16) + IntKind.wrap .i64 (a2 * D.toInt (nth r1 0))))]) := by kernel_rfl
theorem qco (k : Nat) (a0 a1 a2 : Int) : go (k + 1) impl_StartOf [.agg [.int .i64 a0, .int .i64 a1, .int .i64 a2]] =
 (go k impl_IdOk [.agg [.int .i64 a0, .int .i64 a1, .int .i64 a2]]).bind fun r0 =>
 cond (!bit (nth r0 0))
 (some [.int .i64 ((-1 : Int))])
 ((go k impl_WidthOf [.int .i64 a1]).bind fun r1 =>
 some [.int .i64 (IntKind.wrap .i64 (IntKind.wrap .i64 (a0 * 16) + IntKind.wrap .i64 (a2 * D.toInt (nth r1 0))))]) := by kernel_rfl
theorem qdo (k : Nat) (a0 a1 a2 : Int) : go (k + 1) spec_l04End [.agg [.int .i64 a0, .int .i64 a1, .int .i64 a2]] =
 (go k spec_StartOf [.agg [.int .i64 a0, .int .i64 a1, .int .i64 a2]]).bind fun r0 =>
 (go k spec_WidthOf [.int .i64 a1]).bind fun r1 =>
 some [.int .i64 (IntKind.wrap .i64 (D.toInt (nth r0 0) + D.toInt (nth r1 0)))] := by kernel_rfl
theorem qcq (k : Nat) (a0 a1 a2 : Int) : go (k + 1) impl_endOf [.agg [.int .i64 a0, .int .i64 a1, .int .i64 a2]] =
 (go k impl_StartOf [.agg [.int .i64 a0, .int .i64 a1, .int .i64 a2]]).bind fun r0 =>
 (go k impl_WidthOf [.int .i64 a1]).bind fun r1 =>
 some [.int .i64 (IntKind.wrap .i64 (D.toInt (nth r0 0) + D.toInt (nth r1 0)))] := by kernel_rfl
def qfu (x0 x1 : Int) (z2 : Bool) (l3 : L3) (x4 : Int) : St := ⟨fill 45 [(1, .ptr 1 0 0), (3, .int .i64 x0), (4, .int .i64 x1)], [], [.arr false z2 (.r3 l3), .box true [.int .i64 x4, .sl 0 none]]⟩
theorem qdj (k : Nat) (a0 : Int) (a1z : Bool) (a1 : L3) : go (k + 1) spec_MeshOk [.agg [.int .i64 a0, .arr false a1z (.r3 a1)]] =
 lp k spec_MeshOk [] [] 3 k (qfu 0 0 a1z a1 a0) := by kernel_rfl
theorem qec (k n : Nat) (fu : FU) (x0 x1 : Int) (z2 : Bool) (l3 : L3) (x4 : Int) : lp k spec_MeshOk [] fu 3 (n + 1) (qfu x0 x1 z2 l3 x4) =
 cond (decide (x1 < nI (List.length l3)))
 (cond (decide (0 ≤ x1) && decide (x1 < nI (List.length l3)))
 ((go k spec_IdOk [.agg [.int .i64 (Prod.fst (List.getD l3 (Int.toNat x1) zz3)), .int .i64 (Prod.fst (Prod.snd (List.getD l3 (Int.toNat x1) zz3))), .int .i64 (Prod.snd (Prod.snd (List.getD l3 (Int.toNat x1) zz3)))]]).bind fun r0 =>
 cond (!bit (nth r0 0))
 (some [.bool false])
 (cond (decide (0 ≤ x1) && decide (x1 < nI (List.length l3)))
 ((go k spec_StartOf [.agg [.int .i64 (Prod.fst (List.getD l3 (Int.toNat x1) zz3)), .int .i64 (Prod.fst (Prod.snd (List.getD l3 (Int.toNat x1) zz3))), .int .i64 (Prod.snd (Prod.snd (List.getD l3 (Int.toNat x1) zz3)))]]).bind fun r1 =>
 cond (!decide (D.toInt (nth r1 0) = x0))
 (some [.bool false])
 (cond (decide (0 ≤ x1) && decide (x1 < nI (List.length l3)))
 ((go k spec_l04End [.agg [.int .i64 (Prod.fst (List.getD l3 (Int.toNat x1) zz3)), .int .i64 (Prod.fst (Prod.snd (List.getD l3 (Int.toNat x1) zz3))), .int .i64 (Prod.snd (Prod.snd (List.getD l3 (Int.toNat x1) zz3)))]]).bind fun r2 =>
 lp k spec_MeshOk [] fu 3 n (qfu (D.toInt (nth r2 0)) (IntKind.wrap .i64 (x1 + 1)) z2 l3 x4))
 none))
 none))
 none)
 ((go k spec_l01In [.int .i64 x4, .int .i64 1, .int .i64 8]).bind fun r3 =>
 cond (bit (nth r3 0))
 (some [.bool (decide (x0 = IntKind.wrap .i64 (x4 * 16)))])
 (some [.bool false])) := by kernel_rfl
def qfi (x0 x1 x2 : Int) (z3 : Bool) (l4 : L3) (x5 : Int) : St := ⟨fill 35 [(1, .ptr 1 0 0), (3, .int .i64 x0), (7, .sl 0 none), (8, .int .i64 x1), (9, .int .i64 x2)], [], [.arr false z3 (.r3 l4), .box true [.int .i64 x5, .sl 0 none]]⟩
theorem qcm (k : Nat) (a0 : Int) (a1z : Bool) (a1 : L3) : go (k + 1) impl_MeshOk [.agg [.int .i64 a0, .arr false a1z (.r3 a1)]] =
 lp k impl_MeshOk [] [] 3 k (qfi 0 (nI (List.length a1)) 0 a1z a1 a0) := by kernel_rfl
theorem qd0 (k n : Nat) (fu : FU) (x0 x1 x2 : Int) (z3 : Bool) (l4 : L3) (x5 : Int) : lp k impl_MeshOk [] fu 3 (n + 1) (qfi x0 x1 x2 z3 l4 x5) =
 cond (decide (x2 < x1))
 (cond (decide (0 ≤ x2) && decide (x2 < nI (List.length l4)))
 ((go k impl_IdOk [.agg [.int .i64 (Prod.fst (List.getD l4 (Int.toNat x2) zz3)), .int .i64 (Prod.fst (Prod.snd (List.getD l4 (Int.toNat x2) zz3))), .int .i64 (Prod.snd (Prod.snd (List.getD l4 (Int.toNat x2) zz3)))]]).bind fun r0 =>
 cond (!bit (nth r0 0))
 (some [.bool false])
 ((go k impl_StartOf [.agg [.int .i64 (Prod.fst (List.getD l4 (Int.toNat x2) zz3)), .int .i64 (Prod.fst (Prod.snd (List.getD l4 (Int.toNat x2) zz3))), .int .i64 (Prod.snd (Prod.snd (List.getD l4 (Int.toNat x2) zz3)))]]).bind fun r1 =>
 cond (!decide (D.toInt (nth r1 0) = x0))
 (some [.bool false])
 ((go k impl_endOf [.agg [.int .i64 (Prod.fst (List.getD l4 (Int.toNat x2) zz3)), .int .i64 (Prod.fst (Prod.snd (List.getD l4 (Int.toNat x2) zz3))), .int .i64 (Prod.snd (Prod.snd (List.getD l4 (Int.toNat x2) zz3)))]]).bind fun r2 =>
 lp k impl_MeshOk [] fu 3 n (qfi (D.toInt (nth r2 0)) x1 (IntKind.wrap .i64 (x2 + 1)) z3 l4 x5))))
 none)
 ((go k impl_within [.int .i64 x5, .int .i64 1, .int .i64 8]).bind fun r3 =>
 cond (bit (nth r3 0))
 (some [.bool (decide (x0 = IntKind.wrap .i64 (x5 * 16)))])
 (some [.bool false])) := by kernel_rfl
end Go.Proofs.Ytcaapedadpnjoaa
end
section
namespace Go.Proofs.Ytcaapedadpnjoaa
open Go.Ev
theorem qgg {x : Int} (h : -9223372036854775808 ≤ x) (h' : x ≤ 9223372036854775807) : IntKind.wrap .i64 x = x := by rw [IntKind.wrap_i64]; omega
theorem qgh {x : Int} (h : 0 ≤ x) (h' : x ≤ 9223372036854775807) : IntKind.wrap .u64 x = x := by rw [IntKind.wrap_u64]; omega
theorem nth0 (d0 : D) (l : List D) : nth (d0 :: l) 0 = d0 := Eq.trans rfl rfl
theorem nth1 (d0 d1 : D) (l : List D) : nth (d0 :: d1 :: l) 1 = d1 := Eq.trans rfl rfl
theorem nth2 (d0 d1 d2 : D) (l : List D) : nth (d0 :: d1 :: d2 :: l) 2 = d2 := Eq.trans rfl rfl
theorem nth3 (d0 d1 d2 d3 : D) (l : List D) : nth (d0 :: d1 :: d2 :: d3 :: l) 3 = d3 := Eq.trans rfl rfl
theorem qbl (d0 : D) (l : List D) : (D.agg (d0 :: l)).cell 0 = d0 := Eq.trans rfl rfl
theorem qbm (d0 d1 : D) (l : List D) : (D.agg (d0 :: d1 :: l)).cell 1 = d1 := Eq.trans rfl rfl
theorem qbx (d0 d1 d2 : D) (l : List D) : (D.agg (d0 :: d1 :: d2 :: l)).cell 2 = d2 := Eq.trans rfl rfl
theorem qb2 (d0 d1 d2 d3 : D) (l : List D) : (D.agg (d0 :: d1 :: d2 :: d3 :: l)).cell 3 = d3 := Eq.trans rfl rfl
theorem qb3 (d0 d1 d2 d3 d4 : D) (l : List D) : (D.agg (d0 :: d1 :: d2 :: d3 :: d4 :: l)).cell 4 = d4 := Eq.trans rfl rfl
theorem qb4 (d0 d1 d2 d3 d4 d5 : D) (l : List D) : (D.agg (d0 :: d1 :: d2 :: d3 :: d4 :: d5 :: l)).cell 5 = d5 := Eq.trans rfl rfl
theorem qb5 (d0 d1 d2 d3 d4 d5 d6 : D) (l : List D) : (D.agg (d0 :: d1 :: d2 :: d3 :: d4 :: d5 :: d6 :: l)).cell 6 = d6 := Eq.trans rfl rfl
theorem qb6 (d0 d1 d2 d3 d4 d5 d6 d7 : D) (l : List D) : (D.agg (d0 :: d1 :: d2 :: d3 :: d4 :: d5 :: d6 :: d7 :: l)).cell 7 = d7 := Eq.trans rfl rfl
theorem qb7 (d0 d1 d2 d3 d4 d5 d6 d7 d8 : D) (l : List D) : (D.agg (d0 :: d1 :: d2 :: d3 :: d4 :: d5 :: d6 :: d7 :: d8 :: l)).cell 8 = d8 := Eq.trans rfl rfl
theorem qb8 (d0 d1 d2 d3 d4 d5 d6 d7 d8 d9 : D) (l : List D) : (D.agg (d0 :: d1 :: d2 :: d3 :: d4 :: d5 :: d6 :: d7 :: d8 :: d9 :: l)).cell 9 = d9 := Eq.trans rfl rfl
theorem qbn (d0 d1 d2 d3 d4 d5 d6 d7 d8 d9 d10 : D) (l : List D) : (D.agg (d0 :: d1 :: d2 :: d3 :: d4 :: d5 :: d6 :: d7 :: d8 :: d9 :: d10 :: l)).cell 10 = d10 := Eq.trans rfl rfl
theorem qbo (d0 d1 d2 d3 d4 d5 d6 d7 d8 d9 d10 d11 : D) (l : List D) : (D.agg (d0 :: d1 :: d2 :: d3 :: d4 :: d5 :: d6 :: d7 :: d8 :: d9 :: d10 :: d11 :: l)).cell 11 = d11 := Eq.trans rfl rfl
theorem qbp (d0 d1 d2 d3 d4 d5 d6 d7 d8 d9 d10 d11 d12 : D) (l : List D) : (D.agg (d0 :: d1 :: d2 :: d3 :: d4 :: d5 :: d6 :: d7 :: d8 :: d9 :: d10 :: d11 :: d12 :: l)).cell 12 = d12 := Eq.trans rfl rfl
theorem qbq (d0 d1 d2 d3 d4 d5 d6 d7 d8 d9 d10 d11 d12 d13 : D) (l : List D) : (D.agg (d0 :: d1 :: d2 :: d3 :: d4 :: d5 :: d6 :: d7 :: d8 :: d9 :: d10 :: d11 :: d12 :: d13 :: l)).cell 13 = d13 := Eq.trans rfl rfl
theorem qbr (d0 d1 d2 d3 d4 d5 d6 d7 d8 d9 d10 d11 d12 d13 d14 : D) (l : List D) : (D.agg (d0 :: d1 :: d2 :: d3 :: d4 :: d5 :: d6 :: d7 :: d8 :: d9 :: d10 :: d11 :: d12 :: d13 :: d14 :: l)).cell 14 = d14 := Eq.trans rfl rfl
theorem qbs (d0 d1 d2 d3 d4 d5 d6 d7 d8 d9 d10 d11 d12 d13 d14 d15 : D) (l : List D) : (D.agg (d0 :: d1 :: d2 :: d3 :: d4 :: d5 :: d6 :: d7 :: d8 :: d9 :: d10 :: d11 :: d12 :: d13 :: d14 :: d15 :: l)).cell 15 = d15 := Eq.trans rfl rfl
theorem qbt (d0 d1 d2 d3 d4 d5 d6 d7 d8 d9 d10 d11 d12 d13 d14 d15 d16 : D) (l : List D) : (D.agg (d0 :: d1 :: d2 :: d3 :: d4 :: d5 :: d6 :: d7 :: d8 :: d9 :: d10 :: d11 :: d12 :: d13 :: d14 :: d15 :: d16 :: l)).cell 16 = d16 := Eq.trans rfl rfl
theorem qbu (d0 d1 d2 d3 d4 d5 d6 d7 d8 d9 d10 d11 d12 d13 d14 d15 d16 d17 : D) (l : List D) : (D.agg (d0 :: d1 :: d2 :: d3 :: d4 :: d5 :: d6 :: d7 :: d8 :: d9 :: d10 :: d11 :: d12 :: d13 :: d14 :: d15 :: d16 :: d17 :: l)).cell 17 = d17 := Eq.trans rfl rfl
theorem qbv (d0 d1 d2 d3 d4 d5 d6 d7 d8 d9 d10 d11 d12 d13 d14 d15 d16 d17 d18 : D) (l : List D) : (D.agg (d0 :: d1 :: d2 :: d3 :: d4 :: d5 :: d6 :: d7 :: d8 :: d9 :: d10 :: d11 :: d12 :: d13 :: d14 :: d15 :: d16 :: d17 :: d18 :: l)).cell 18 = d18 := Eq.trans rfl rfl
theorem qbw (d0 d1 d2 d3 d4 d5 d6 d7 d8 d9 d10 d11 d12 d13 d14 d15 d16 d17 d18 d19 : D) (l : List D) : (D.agg (d0 :: d1 :: d2 :: d3 :: d4 :: d5 :: d6 :: d7 :: d8 :: d9 :: d10 :: d11 :: d12 :: d13 :: d14 :: d15 :: d16 :: d17 :: d18 :: d19 :: l)).cell 19 = d19 := Eq.trans rfl rfl
theorem qby (d0 d1 d2 d3 d4 d5 d6 d7 d8 d9 d10 d11 d12 d13 d14 d15 d16 d17 d18 d19 d20 : D) (l : List D) : (D.agg (d0 :: d1 :: d2 :: d3 :: d4 :: d5 :: d6 :: d7 :: d8 :: d9 :: d10 :: d11 :: d12 :: d13 :: d14 :: d15 :: d16 :: d17 :: d18 :: d19 :: d20 :: l)).cell 20 = d20 := Eq.trans rfl rfl
theorem qbz (d0 d1 d2 d3 d4 d5 d6 d7 d8 d9 d10 d11 d12 d13 d14 d15 d16 d17 d18 d19 d20 d21 : D) (l : List D) : (D.agg (d0 :: d1 :: d2 :: d3 :: d4 :: d5 :: d6 :: d7 :: d8 :: d9 :: d10 :: d11 :: d12 :: d13 :: d14 :: d15 :: d16 :: d17 :: d18 :: d19 :: d20 :: d21 :: l)).cell 21 = d21 := Eq.trans rfl rfl
theorem qb0 (d0 d1 d2 d3 d4 d5 d6 d7 d8 d9 d10 d11 d12 d13 d14 d15 d16 d17 d18 d19 d20 d21 d22 : D) (l : List D) : (D.agg (d0 :: d1 :: d2 :: d3 :: d4 :: d5 :: d6 :: d7 :: d8 :: d9 :: d10 :: d11 :: d12 :: d13 :: d14 :: d15 :: d16 :: d17 :: d18 :: d19 :: d20 :: d21 :: d22 :: l)).cell 22 = d22 := Eq.trans rfl rfl
theorem qb1 (d0 d1 d2 d3 d4 d5 d6 d7 d8 d9 d10 d11 d12 d13 d14 d15 d16 d17 d18 d19 d20 d21 d22 d23 : D) (l : List D) : (D.agg (d0 :: d1 :: d2 :: d3 :: d4 :: d5 :: d6 :: d7 :: d8 :: d9 :: d10 :: d11 :: d12 :: d13 :: d14 :: d15 :: d16 :: d17 :: d18 :: d19 :: d20 :: d21 :: d22 :: d23 :: l)).cell 23 = d23 := Eq.trans rfl rfl
theorem qf9 (k : IntKind) (n : Int) : (D.int k n).toInt = n := Eq.trans rfl rfl
theorem qf8 (b : Bool) : (D.bool b).toBool = b := Eq.trans rfl rfl
theorem qga (s : ByteArray) : (D.str s).toStr = s := Eq.trans rfl rfl
theorem qe3 (o n : Bool) (a : Arr) : (D.arr o n a).nil = n := Eq.trans rfl rfl
theorem qe7 (o n : Bool) (l : List (Int × Int × Int)) : (D.arr o n (.r3 l)).r3 = l := Eq.trans rfl rfl
theorem qe8 (o n : Bool) (l : List (Int × Int × Int × Int)) : (D.arr o n (.r4 l)).r4 = l := Eq.trans rfl rfl
theorem qdw (o n : Bool) (k : IntKind) (l : List Int) : (D.arr o n (.ints k l)).ints = l := Eq.trans rfl rfl
theorem qac (o n : Bool) (l : List Bool) : (D.arr o n (.bools l)).bools = l := Eq.trans rfl rfl
theorem qf0 (o n : Bool) (l : List ByteArray) : (D.arr o n (.strs l)).strs = l := Eq.trans rfl rfl
theorem qca {α : Type} (x y : α) : cond true x y = x := Eq.trans rfl rfl
theorem qb9 {α : Type} (x y : α) : cond false x y = y := Eq.trans rfl rfl
theorem qab {α : Type} (x : List D) (f : List D → Option α) : (some x).bind f = f x := Eq.trans rfl rfl
theorem dT {p : Prop} {i : Decidable p} (h : p) : @decide p i = true := by cases i <;> simp_all
theorem dF {p : Prop} {i : Decidable p} (h : ¬p) : @decide p i = false := by cases i <;> simp_all
theorem qbj (i : Nat) : (i : Int) + 1 = ((i + 1 : Nat) : Int) := Eq.trans rfl rfl
theorem qbk (i : Nat) : (i : Int) + 2 = ((i + 2 : Nat) : Int) := Eq.trans rfl rfl
theorem imax (x y : Int) : (if x > y then x else y) = max x y := by by_cases h : x > y <;> simp only [h, if_true, if_false] <;> omega
theorem imin (x y : Int) : (if x < y then x else y) = min x y := by by_cases h : x < y <;> simp only [h, if_true, if_false] <;> omega
theorem qcb (b x : Bool) : cond (!b) (some [D.bool false]) (some [D.bool x]) = some [D.bool (b && x)] := by cases b <;> rfl
theorem qcc (b x : Bool) : cond b (some [D.bool x]) (some [D.bool false]) = some [D.bool (b && x)] := by cases b <;> rfl
theorem dTT {i : Decidable True} : @decide True i = true := by cases i with | isTrue _ => rfl | isFalse h => exact absurd trivial h
theorem dFF {i : Decidable False} : @decide False i = false := by cases i with | isTrue h => exact h.elim | isFalse _ => rfl
theorem bigI : ((bigLen : Nat) : Int) = 1099511627776 := Eq.trans rfl rfl
theorem qe2 {α : Type} (l : List α) : [] ++ l = l := Eq.trans rfl rfl
theorem big0 : bigLen = 1099511627776 := Eq.trans rfl rfl
theorem qci {α : Type} {l : List α} {i : Nat} (h : i < l.length) (d : α) : l.drop i = l.getD i d :: l.drop (i + 1) := by
  rw [List.drop_eq_getElem_cons h]; simp [h]
theorem wk : (((∀ (o : Bool) (d : D), wC o d = .agg [.int .i64 (D.toInt (D.cell 0 d)), .arr o (D.nil (D.cell 1 d)) (.r3 (D.r3 (D.cell 1 d))), .arr o (D.nil (D.cell 2 d)) (.ints .i64 (D.ints (D.cell 2 d))), .arr o (D.nil (D.cell 3 d)) (.ints .i64 (D.ints (D.cell 3 d))), .arr o (D.nil (D.cell 4 d)) (.ints .i64 (D.ints (D.cell 4 d))), .int .i64 (D.toInt (D.cell 5 d)), .int .i64 (D.toInt (D.cell 6 d)), .int .i64 (D.toInt (D.cell 7 d)), .int .i64 (D.toInt (D.cell 8 d)), .int .i64 (D.toInt (D.cell 9 d)), .int .i64 (D.toInt (D.cell 10 d)), .int .i64 (D.toInt (D.cell 11 d)), .int .i64 (D.toInt (D.cell 12 d)), .int .i64 (D.toInt (D.cell 13 d)), .int .i64 (D.toInt (D.cell 14 d)), .int .i64 (D.toInt (D.cell 15 d)), .int .i64 (D.toInt (D.cell 16 d)), .int .i64 (D.toInt (D.cell 17 d)), .int .i64 (D.toInt (D.cell 18 d)), .int .i64 (D.toInt (D.cell 19 d)), .int .i64 (D.toInt (D.cell 20 d))]) ∧ (∀ (o : Bool) (d : D), sC o d = .agg [.int .i64 (D.toInt (D.cell 0 d)), .arr o (D.nil (D.cell 1 d)) (.r3 (D.r3 (D.cell 1 d))), .arr o (D.nil (D.cell 2 d)) (.ints .i64 (D.ints (D.cell 2 d))), .arr o (D.nil (D.cell 3 d)) (.ints .i64 (D.ints (D.cell 3 d))), .arr o (D.nil (D.cell 4 d)) (.ints .i64 (D.ints (D.cell 4 d)))])) ∧ ((∀ {α : Type} (f : Bool → L3 → Bool → LI → Bool → LI → Bool → LI → Int → Int → Int → Int → Int → Int → Int → Int → Int → Int → Int → Int → Int → Int → Int → Int → Int → α) (d : D), wA f d = f (D.nil (D.cell 1 d)) (D.r3 (D.cell 1 d)) (D.nil (D.cell 2 d)) (D.ints (D.cell 2 d)) (D.nil (D.cell 3 d)) (D.ints (D.cell 3 d)) (D.nil (D.cell 4 d)) (D.ints (D.cell 4 d)) (D.toInt (D.cell 0 d)) (D.toInt (D.cell 5 d)) (D.toInt (D.cell 6 d)) (D.toInt (D.cell 7 d)) (D.toInt (D.cell 8 d)) (D.toInt (D.cell 9 d)) (D.toInt (D.cell 10 d)) (D.toInt (D.cell 11 d)) (D.toInt (D.cell 12 d)) (D.toInt (D.cell 13 d)) (D.toInt (D.cell 14 d)) (D.toInt (D.cell 15 d)) (D.toInt (D.cell 16 d)) (D.toInt (D.cell 17 d)) (D.toInt (D.cell 18 d)) (D.toInt (D.cell 19 d)) (D.toInt (D.cell 20 d))) ∧ (∀ {α : Type} (f : Bool → L3 → Bool → LI → Bool → LI → Bool → LI → Int → α) (d : D), sA f d = f (D.nil (D.cell 1 d)) (D.r3 (D.cell 1 d)) (D.nil (D.cell 2 d)) (D.ints (D.cell 2 d)) (D.nil (D.cell 3 d)) (D.ints (D.cell 3 d)) (D.nil (D.cell 4 d)) (D.ints (D.cell 4 d)) (D.toInt (D.cell 0 d))))) ∧ (((((((∀ {α : Type} (x : List D) (f : List D → Option α), (some x).bind f = f x) ∧ (∀ (d0 : D) (l : List D), nth (d0 :: l) 0 = d0)) ∧ ((∀ (d0 d1 : D) (l : List D), nth (d0 :: d1 :: l) 1 = d1) ∧ (∀ (d0 d1 d2 : D) (l : List D), nth (d0 :: d1 :: d2 :: l) 2 = d2))) ∧ (((∀ (d0 d1 d2 d3 : D) (l : List D), nth (d0 :: d1 :: d2 :: d3 :: l) 3 = d3) ∧ (∀ (d0 : D) (l : List D), (D.agg (d0 :: l)).cell 0 = d0)) ∧ ((∀ (d0 d1 : D) (l : List D), (D.agg (d0 :: d1 :: l)).cell 1 = d1) ∧ (∀ (d0 d1 d2 : D) (l : List D), (D.agg (d0 :: d1 :: d2 :: l)).cell 2 = d2)))) ∧ ((((∀ (d0 d1 d2 d3 : D) (l : List D), (D.agg (d0 :: d1 :: d2 :: d3 :: l)).cell 3 = d3) ∧ (∀ (d0 d1 d2 d3 d4 : D) (l : List D), (D.agg (d0 :: d1 :: d2 :: d3 :: d4 :: l)).cell 4 = d4)) ∧ ((∀ (d0 d1 d2 d3 d4 d5 : D) (l : List D), (D.agg (d0 :: d1 :: d2 :: d3 :: d4 :: d5 :: l)).cell 5 = d5) ∧ (∀ (d0 d1 d2 d3 d4 d5 d6 : D) (l : List D), (D.agg (d0 :: d1 :: d2 :: d3 :: d4 :: d5 :: d6 :: l)).cell 6 = d6))) ∧ (((∀ (d0 d1 d2 d3 d4 d5 d6 d7 : D) (l : List D), (D.agg (d0 :: d1 :: d2 :: d3 :: d4 :: d5 :: d6 :: d7 :: l)).cell 7 = d7) ∧ (∀ (d0 d1 d2 d3 d4 d5 d6 d7 d8 : D) (l : List D), (D.agg (d0 :: d1 :: d2 :: d3 :: d4 :: d5 :: d6 :: d7 :: d8 :: l)).cell 8 = d8)) ∧ ((∀ (d0 d1 d2 d3 d4 d5 d6 d7 d8 d9 : D) (l : List D), (D.agg (d0 :: d1 :: d2 :: d3 :: d4 :: d5 :: d6 :: d7 :: d8 :: d9 :: l)).cell 9 = d9) ∧ (∀ (d0 d1 d2 d3 d4 d5 d6 d7 d8 d9 d10 : D) (l : List D), (D.agg (d0 :: d1 :: d2 :: d3 :: d4 :: d5 :: d6 :: d7 :: d8 :: d9 :: d10 :: l)).cell 10 = d10))))) ∧ (((((∀ (d0 d1 d2 d3 d4 d5 d6 d7 d8 d9 d10 d11 : D) (l : List D), (D.agg (d0 :: d1 :: d2 :: d3 :: d4 :: d5 :: d6 :: d7 :: d8 :: d9 :: d10 :: d11 :: l)).cell 11 = d11) ∧ (∀ (d0 d1 d2 d3 d4 d5 d6 d7 d8 d9 d10 d11 d12 : D) (l : List D), (D.agg (d0 :: d1 :: d2 :: d3 :: d4 :: d5 :: d6 :: d7 :: d8 :: d9 :: d10 :: d11 :: d12 :: l)).cell 12 = d12)) ∧ ((∀ (d0 d1 d2 d3 d4 d5 d6 d7 d8 d9 d10 d11 d12 d13 : D) (l : List D), (D.agg (d0 :: d1 :: d2 :: d3 :: d4 :: d5 :: d6 :: d7 :: d8 :: d9 :: d10 :: d11 :: d12 :: d13 :: l)).cell 13 = d13) ∧ (∀ (d0 d1 d2 d3 d4 d5 d6 d7 d8 d9 d10 d11 d12 d13 d14 : D) (l : List D), (D.agg (d0 :: d1 :: d2 :: d3 :: d4 :: d5 :: d6 :: d7 :: d8 :: d9 :: d10 :: d11 :: d12 :: d13 :: d14 :: l)).cell 14 = d14))) ∧ (((∀ (d0 d1 d2 d3 d4 d5 d6 d7 d8 d9 d10 d11 d12 d13 d14 d15 : D) (l : List D), (D.agg (d0 :: d1 :: d2 :: d3 :: d4 :: d5 :: d6 :: d7 :: d8 :: d9 :: d10 :: d11 :: d12 :: d13 :: d14 :: d15 :: l)).cell 15 = d15) ∧ (∀ (d0 d1 d2 d3 d4 d5 d6 d7 d8 d9 d10 d11 d12 d13 d14 d15 d16 : D) (l : List D), (D.agg (d0 :: d1 :: d2 :: d3 :: d4 :: d5 :: d6 :: d7 :: d8 :: d9 :: d10 :: d11 :: d12 :: d13 :: d14 :: d15 :: d16 :: l)).cell 16 = d16)) ∧ ((∀ (d0 d1 d2 d3 d4 d5 d6 d7 d8 d9 d10 d11 d12 d13 d14 d15 d16 d17 : D) (l : List D), (D.agg (d0 :: d1 :: d2 :: d3 :: d4 :: d5 :: d6 :: d7 :: d8 :: d9 :: d10 :: d11 :: d12 :: d13 :: d14 :: d15 :: d16 :: d17 :: l)).cell 17 = d17) ∧ (∀ (d0 d1 d2 d3 d4 d5 d6 d7 d8 d9 d10 d11 d12 d13 d14 d15 d16 d17 d18 : D) (l : List D), (D.agg (d0 :: d1 :: d2 :: d3 :: d4 :: d5 :: d6 :: d7 :: d8 :: d9 :: d10 :: d11 :: d12 :: d13 :: d14 :: d15 :: d16 :: d17 :: d18 :: l)).cell 18 = d18)))) ∧ ((((∀ (d0 d1 d2 d3 d4 d5 d6 d7 d8 d9 d10 d11 d12 d13 d14 d15 d16 d17 d18 d19 : D) (l : List D), (D.agg (d0 :: d1 :: d2 :: d3 :: d4 :: d5 :: d6 :: d7 :: d8 :: d9 :: d10 :: d11 :: d12 :: d13 :: d14 :: d15 :: d16 :: d17 :: d18 :: d19 :: l)).cell 19 = d19) ∧ (∀ (d0 d1 d2 d3 d4 d5 d6 d7 d8 d9 d10 d11 d12 d13 d14 d15 d16 d17 d18 d19 d20 : D) (l : List D), (D.agg (d0 :: d1 :: d2 :: d3 :: d4 :: d5 :: d6 :: d7 :: d8 :: d9 :: d10 :: d11 :: d12 :: d13 :: d14 :: d15 :: d16 :: d17 :: d18 :: d19 :: d20 :: l)).cell 20 = d20)) ∧ ((∀ (d0 d1 d2 d3 d4 d5 d6 d7 d8 d9 d10 d11 d12 d13 d14 d15 d16 d17 d18 d19 d20 d21 : D) (l : List D), (D.agg (d0 :: d1 :: d2 :: d3 :: d4 :: d5 :: d6 :: d7 :: d8 :: d9 :: d10 :: d11 :: d12 :: d13 :: d14 :: d15 :: d16 :: d17 :: d18 :: d19 :: d20 :: d21 :: l)).cell 21 = d21) ∧ (∀ (d0 d1 d2 d3 d4 d5 d6 d7 d8 d9 d10 d11 d12 d13 d14 d15 d16 d17 d18 d19 d20 d21 d22 : D) (l : List D), (D.agg (d0 :: d1 :: d2 :: d3 :: d4 :: d5 :: d6 :: d7 :: d8 :: d9 :: d10 :: d11 :: d12 :: d13 :: d14 :: d15 :: d16 :: d17 :: d18 :: d19 :: d20 :: d21 :: d22 :: l)).cell 22 = d22))) ∧ (((∀ (d0 d1 d2 d3 d4 d5 d6 d7 d8 d9 d10 d11 d12 d13 d14 d15 d16 d17 d18 d19 d20 d21 d22 d23 : D) (l : List D), (D.agg (d0 :: d1 :: d2 :: d3 :: d4 :: d5 :: d6 :: d7 :: d8 :: d9 :: d10 :: d11 :: d12 :: d13 :: d14 :: d15 :: d16 :: d17 :: d18 :: d19 :: d20 :: d21 :: d22 :: d23 :: l)).cell 23 = d23) ∧ (∀ (k : IntKind) (n : Int), (D.int k n).toInt = n)) ∧ ((∀ (b : Bool), (D.bool b).toBool = b) ∧ ((∀ (s : ByteArray), (D.str s).toStr = s) ∧ (∀ (o n : Bool) (a : Arr), (D.arr o n a).nil = n))))))) ∧ ((((((∀ (o n : Bool) (l : List (Int × Int × Int)), (D.arr o n (.r3 l)).r3 = l) ∧ (∀ (o n : Bool) (l : List (Int × Int × Int × Int)), (D.arr o n (.r4 l)).r4 = l)) ∧ ((∀ (o n : Bool) (k : IntKind) (l : List Int), (D.arr o n (.ints k l)).ints = l) ∧ (∀ (o n : Bool) (l : List Bool), (D.arr o n (.bools l)).bools = l))) ∧ (((∀ (o n : Bool) (l : List ByteArray), (D.arr o n (.strs l)).strs = l) ∧ (∀ {α : Type} (x y : α), cond true x y = x)) ∧ ((∀ {α : Type} (x y : α), cond false x y = y) ∧ ((!true) = false)))) ∧ (((((!false) = true) ∧ (∀ (b : Bool), (b && true) = b)) ∧ ((∀ (b : Bool), (true && b) = b) ∧ (∀ (b : Bool), (b && false) = false))) ∧ (((∀ (b : Bool), (false && b) = false) ∧ (∀ (b : Bool), (b || true) = true)) ∧ ((∀ (b : Bool), (true || b) = true) ∧ ((∀ (b : Bool), (b || false) = b) ∧ (∀ (b : Bool), (false || b) = b)))))) ∧ (((((∀ {α : Type} [BEq α] [ReflBEq α] (a : α), (a == a) = true) ∧ (∀ {i : Decidable True}, @decide True i = true)) ∧ ((∀ {i : Decidable False}, @decide False i = false) ∧ (∀ {p : Prop} {i : Decidable p} (h : p), @decide p i = true))) ∧ (((∀ {p : Prop} {i : Decidable p} (h : ¬p), @decide p i = false) ∧ (((bigLen : Nat) : Int) = 1099511627776)) ∧ ((bigLen = 1099511627776) ∧ (∀ {α : Type} (l : List α), [] ++ l = l)))) ∧ ((((∀ {x : Int} (h : -9223372036854775808 ≤ x) (h' : x ≤ 9223372036854775807), IntKind.wrap .i64 x = x) ∧ (∀ {x : Int} (h : 0 ≤ x) (h' : x ≤ 9223372036854775807), IntKind.wrap .u64 x = x)) ∧ ((∀ {α : Type} {l : List α} {i : Nat} {a : α}, (l.set i a).length = l.length) ∧ (∀ {α : Type} {n : Nat} {a : α}, (List.replicate n a).length = n))) ∧ (((∀ (n : Nat), Int.toNat (n : Int) = n) ∧ (∀ (i : Nat), (i : Int) + 1 = ((i + 1 : Nat) : Int))) ∧ ((∀ (i : Nat), (i : Int) + 2 = ((i + 2 : Nat) : Int)) ∧ ((∀ (x y : Int), (if x > y then x else y) = max x y) ∧ (∀ (x y : Int), (if x < y then x else y) = min x y)))))))) :=
  And.intro (And.intro (And.intro @wCe @sCe) (And.intro @wAe @sAe)) (And.intro (And.intro (And.intro (And.intro (And.intro (And.intro @qab @nth0) (And.intro @nth1 @nth2)) (And.intro (And.intro @nth3 @qbl) (And.intro @qbm @qbx))) (And.intro (And.intro (And.intro @qb2 @qb3) (And.intro @qb4 @qb5)) (And.intro (And.intro @qb6 @qb7) (And.intro @qb8 @qbn)))) (And.intro (And.intro (And.intro (And.intro @qbo @qbp) (And.intro @qbq @qbr)) (And.intro (And.intro @qbs @qbt) (And.intro @qbu @qbv))) (And.intro (And.intro (And.intro @qbw @qby) (And.intro @qbz @qb0)) (And.intro (And.intro @qb1 @qf9) (And.intro @qf8 (And.intro @qga @qe3)))))) (And.intro (And.intro (And.intro (And.intro (And.intro @qe7 @qe8) (And.intro @qdw @qac)) (And.intro (And.intro @qf0 @qca) (And.intro @qb9 @Bool.not_true))) (And.intro (And.intro (And.intro @Bool.not_false @Bool.and_true) (And.intro @Bool.true_and @Bool.and_false)) (And.intro (And.intro @Bool.false_and @Bool.or_true) (And.intro @Bool.true_or (And.intro @Bool.or_false @Bool.false_or))))) (And.intro (And.intro (And.intro (And.intro @beq_self_eq_true.{0} @dTT) (And.intro @dFF @dT)) (And.intro (And.intro @dF @bigI) (And.intro @big0 @qe2))) (And.intro (And.intro (And.intro @qgg @qgh) (And.intro @List.length_set.{0} @List.length_replicate.{0})) (And.intro (And.intro @Int.toNat_natCast @qbj) (And.intro @qbk (And.intro @imax @imin)))))))
end Go.Proofs.Ytcaapedadpnjoaa
end
section
namespace Go.Proofs.Ytcaapedadpnjoaa
open Go.Ev
def inR (a b c : Int) : Bool := decide (b ≤ a) && decide (a ≤ c)
theorem qdv {a b c : Int} : inR a b c = true ↔ b ≤ a ∧ a ≤ c := by simp [inR]
theorem qbh (k : Nat) (hk : 2000000 ≤ k) (a : Int) (b : Int) (c : Int) : go (k + 1) spec_l01In [(.int .i64 (a)), (.int .i64 (b)), (.int .i64 (c))] = some [.bool (inR a b c)] := by
  rw [qdn]; unfold inR; cases decide (b ≤ a) <;> rfl
theorem qao (k : Nat) (hk : 2000000 ≤ k) (a : Int) (b : Int) (c : Int) : go (k + 1) impl_within [(.int .i64 (a)), (.int .i64 (b)), (.int .i64 (c))] = some [.bool (inR a b c)] := by
  rw [qcu]; unfold inR; cases decide (b ≤ a) <;> rfl
def pow2 (l : Int) : Int := 2 ^ l.toNat
def idOk (r l i : Int) : Bool := inR r 0 7 && (inR l 0 4 && (decide (0 ≤ i) && decide (i < pow2 l)))
theorem lev {l : Int} (h : inR l 0 4 = true) : l = 0 ∨ l = 1 ∨ l = 2 ∨ l = 3 ∨ l = 4 := by
  simp only [inR, Bool.and_eq_true, decide_eq_true_eq] at h; omega
theorem p20 : pow2 0 = 1 := rfl
theorem p21 : pow2 1 = 2 := rfl
theorem p22 : pow2 2 = 4 := rfl
theorem p23 : pow2 3 = 8 := rfl
theorem p24 : pow2 4 = 16 := rfl
theorem sh0 : shiftN .i64 0 = 0 := by decide
theorem sh1 : shiftN .i64 1 = 1 := by decide
theorem sh2 : shiftN .i64 2 = 2 := by decide
theorem sh3 : shiftN .i64 3 = 3 := by decide
theorem sh4 : shiftN .i64 4 = 4 := by decide
theorem pw {l : Int} (h : inR l 0 4 = true) : IntKind.wrap .i64 ((1 : Int) * (2 : Int) ^ shiftN .i64 l) = pow2 l := by
  rcases lev h with rfl | rfl | rfl | rfl | rfl <;> simp [sh0, sh1, sh2, sh3, sh4, qgg, p20, p21, p22, p23, p24]
theorem lev0 {l : Int} (h : inR l 0 4 = true) : 0 ≤ l ∧ l ≤ 4 := by
  simp only [inR, Bool.and_eq_true, decide_eq_true_eq] at h; omega
theorem qe6 {l : Int} (h : inR l 0 4 = true) : 1 ≤ pow2 l ∧ pow2 l ≤ 16 := by
  rcases lev h with rfl | rfl | rfl | rfl | rfl <;> simp [p20, p21, p22, p23, p24]
theorem qbc (k : Nat) (hk : 2000000 ≤ k) (a0 : Int) (a1 : Int) (a2 : Int) : go (k + 2) spec_IdOk [(.agg [(.int .i64 (a0)), (.int .i64 (a1)), (.int .i64 (a2))])] = some [.bool (idOk a0 a1 a2)] := by
  rw [qdi]
  simp (disch := omega) only [wk, bit, nI, qbh]
  unfold idOk
  cases h1 : inR a0 0 7 <;> cases h2 : inR a1 0 4 <;> simp only [qca, qb9, Bool.true_and, Bool.false_and, Bool.and_false]
  have := lev0 h2
  rw [qgh (x := a1) (by omega) (by omega), pw h2]
  by_cases h3 : (0 : Int) ≤ a2
  · simp [h3, this.1]
  · simp [h3]
theorem qal (k : Nat) (hk : 2000000 ≤ k) (a : Int) : go (k + 2) impl_isLevel [(.int .i64 (a))] = some [.bool (inR a 0 4)] := by
  rw [qcr]
  simp (disch := omega) only [wk, bit, nI, qao]
theorem qaf (k : Nat) (hk : 2000000 ≤ k) (a0 : Int) (a1 : Int) (a2 : Int) : go (k + 3) impl_IdOk [(.agg [(.int .i64 (a0)), (.int .i64 (a1)), (.int .i64 (a2))])] = some [.bool (idOk a0 a1 a2)] := by
  rw [qcl]
  simp (disch := omega) only [wk, bit, nI, qao, qal]
  unfold idOk
  cases h1 : inR a0 0 7 <;> cases h2 : inR a1 0 4 <;> simp only [qca, qb9, Bool.true_and, Bool.false_and, Bool.and_false]
  have := lev0 h2
  have := qe6 h2
  rw [pw h2, qgg (x := pow2 a1 - 1) (by omega) (by omega)]
  rw [show decide ((0 : Int) ≤ a1) = true by simp; omega, qca]
  have e : inR a2 0 (pow2 a1 - 1) = (decide (0 ≤ a2) && decide (a2 < pow2 a1)) := by
    unfold inR; rw [Bool.eq_iff_iff]; simp only [Bool.and_eq_true, decide_eq_true_eq]; omega
  rw [e]
def qgd (l : Int) : Int := if inR l 0 4 then 16 / pow2 l else 0
theorem qbg (k : Nat) (hk : 2000000 ≤ k) (a : Int) : go (k + 2) spec_WidthOf [(.int .i64 (a))] = some [.int .i64 (qgd a)] := by
  rw [qdm]
  simp (disch := omega) only [wk, bit, nI, qbh, qgd]
  cases h2 : inR a 0 4
  · simp
  · rcases lev h2 with rfl | rfl | rfl | rfl | rfl <;> simp [qgh, sh0, sh1, sh2, sh3, sh4, p20, p21, p22, p23, p24] <;> decide
theorem qaj (k : Nat) (hk : 2000000 ≤ k) (a : Int) : go (k + 3) impl_WidthOf [(.int .i64 (a))] = some [.int .i64 (qgd a)] := by
  rw [qcp]
  simp (disch := omega) only [wk, bit, nI, qal, qgd]
  cases h2 : inR a 0 4
  · simp
  · rcases lev h2 with rfl | rfl | rfl | rfl | rfl <;> simp [qgh, sh0, sh1, sh2, sh3, sh4, p20, p21, p22, p23, p24] <;> decide
def qfw (r l i : Int) : Int := if idOk r l i then r * 16 + i * qgd l else -1
theorem qgf (l : Int) : 0 ≤ qgd l ∧ qgd l ≤ 16 := by
  unfold qgd
  cases h : inR l 0 4
  · simp
  · rcases lev h with rfl | rfl | rfl | rfl | rfl <;> decide
theorem qdu {r l i : Int} (h : idOk r l i = true) : 0 ≤ r ∧ r ≤ 7 ∧ inR l 0 4 = true ∧ 0 ≤ i ∧ i < pow2 l := by
  simp only [idOk, Bool.and_eq_true, decide_eq_true_eq] at h
  obtain ⟨h1, h2, h3, h4⟩ := h
  simp only [inR, Bool.and_eq_true, decide_eq_true_eq] at h1
  exact ⟨h1.1, h1.2, h2, h3, h4⟩
theorem iw {r l i : Int} (h : idOk r l i = true) : 0 ≤ i * qgd l ∧ i * qgd l ≤ 256 := by
  obtain ⟨_, _, h2, h3, h4⟩ := qdu h
  have h5 := (qe6 h2).2
  have h6 := qgf l
  have h7 : i ≤ 16 := by omega
  refine ⟨Int.mul_nonneg h3 h6.1, ?_⟩
  calc i * qgd l ≤ 16 * qgd l := Int.mul_le_mul_of_nonneg_right h7 h6.1
    _ ≤ 16 * 16 := Int.mul_le_mul_of_nonneg_left h6.2 (by omega)
theorem qfx (r l i : Int) : -1 ≤ qfw r l i ∧ qfw r l i ≤ 1000 := by
  unfold qfw
  cases h : idOk r l i
  · simp
  · have := iw h; have := qdu h
    simp; omega
theorem qfy {r l i : Int} (h : idOk r l i = true) : IntKind.wrap .i64 (IntKind.wrap .i64 (r * (16 : Int)) + IntKind.wrap .i64 (i * qgd l)) = qfw r l i := by
  have h1 := iw h; have h2 := qdu h
  rw [qgg (x := r * 16) (by omega) (by omega), qgg (x := i * qgd l) (by omega) (by omega), qgg (by omega) (by omega)]
  simp [qfw, h]
theorem qbf (k : Nat) (hk : 2000000 ≤ k) (a0 : Int) (a1 : Int) (a2 : Int) : go (k + 3) spec_StartOf [(.agg [(.int .i64 (a0)), (.int .i64 (a1)), (.int .i64 (a2))])] = some [.int .i64 (qfw a0 a1 a2)] := by
  rw [qdl]
  simp (disch := omega) only [wk, bit, nI, qbc, qbg]
  cases h : idOk a0 a1 a2
  · simp [qfw, h]
  · rw [qfy h]; rfl
theorem qai (k : Nat) (hk : 2000000 ≤ k) (a0 : Int) (a1 : Int) (a2 : Int) : go (k + 4) impl_StartOf [(.agg [(.int .i64 (a0)), (.int .i64 (a1)), (.int .i64 (a2))])] = some [.int .i64 (qfw a0 a1 a2)] := by
  rw [qco]
  simp (disch := omega) only [wk, bit, nI, qaf, qaj]
  cases h : idOk a0 a1 a2
  · simp [qfw, h]
  · rw [qfy h]; rfl
theorem qdp (r l i : Int) : IntKind.wrap .i64 (qfw r l i + qgd l) = qfw r l i + qgd l := by
  have h1 := qfx r l i; have h2 := qgf l
  exact qgg (by omega) (by omega)
theorem qbi (k : Nat) (hk : 2000000 ≤ k) (a0 : Int) (a1 : Int) (a2 : Int) : go (k + 4) spec_l04End [(.agg [(.int .i64 (a0)), (.int .i64 (a1)), (.int .i64 (a2))])] = some [.int .i64 (qfw a0 a1 a2 + qgd a1)] := by
  rw [qdo]
  simp (disch := omega) only [wk, bit, nI, qbf, qbg, qdp]
theorem qak (k : Nat) (hk : 2000000 ≤ k) (a0 : Int) (a1 : Int) (a2 : Int) : go (k + 5) impl_endOf [(.agg [(.int .i64 (a0)), (.int .i64 (a1)), (.int .i64 (a2))])] = some [.int .i64 (qfw a0 a1 a2 + qgd a1)] := by
  rw [qcq]
  simp (disch := omega) only [wk, bit, nI, qai, qaj, qdp]
abbrev Cell := Int × Int × Int
def qex (roots : Int) : Int → List Cell → Bool
  | pos, [] => inR roots 1 8 && decide (pos = roots * 16)
  | pos, x :: rest => idOk x.1 x.2.1 x.2.2 && (decide (qfw x.1 x.2.1 x.2.2 = pos) && qex roots (qfw x.1 x.2.1 x.2.2 + qgd x.2.1) rest)
theorem qey (roots pos : Int) : cond (inR roots 1 8) (some [D.bool (decide (pos = IntKind.wrap .i64 (roots * (16 : Int))))]) (some [D.bool false]) = some [D.bool (qex roots pos [])] := by
  unfold qex
  cases h : inR roots 1 8
  · rfl
  · simp only [inR, Bool.and_eq_true, decide_eq_true_eq] at h
    rw [qgg (by omega) (by omega)]; rfl
theorem qet (k : Nat) (hk : 2000000 ≤ k) (fu : List (Nat × Nat)) (z : Bool) (l : List Cell) (roots : Int) (hl : (l.length : Int) ≤ 1048576) : ∀ (n i : Nat) (pos : Int), i ≤ l.length → l.length - i < n →
    lp (k + 4) spec_MeshOk [] fu 3 (n) (qfu pos (i : Int) z l roots) = some [.bool (qex roots pos (l.drop i))]
  | 0, i, pos, hi, hn => by omega
  | n + 1, i, pos, hi, hn => by
    rw [qec]
    by_cases h : i < l.length
    · rw [qci h zz3]
      simp (disch := omega) only [wk, bit, nI, qbc, qbf, qbi, qex]
      rw [qet k hk fu z l roots hl n (i + 1) _ (by omega) (by omega)]
      simp only [qcb, qcc, Bool.and_assoc]
    · rw [List.drop_of_length_le (by omega)]
      simp (disch := omega) only [wk, bit, nI, qbh]
      exact qey roots pos
theorem qbd (k : Nat) (hk : 2000000 ≤ k) (a0 : Int) (a1z : Bool) (a1 : List (Int × Int × Int)) (hl : (a1.length : Int) ≤ 1048576) : go (k + 5) spec_MeshOk [(.agg [(.int .i64 (a0)), (.arr false (a1z) (.r3 (a1)))])] = some [.bool (qex a0 0 a1)] := by
  rw [qdj]
  exact qet k hk _ _ a1 a0 hl _ 0 0 (by omega) (by omega)
theorem qej (k : Nat) (hk : 2000000 ≤ k) (fu : List (Nat × Nat)) (z : Bool) (l : List Cell) (roots : Int) (hl : (l.length : Int) ≤ 1048576) : ∀ (n i : Nat) (pos : Int), i ≤ l.length → l.length - i < n →
    lp (k + 5) impl_MeshOk [] fu 3 (n) (qfi pos (l.length : Int) (i : Int) z l roots) = some [.bool (qex roots pos (l.drop i))]
  | 0, i, pos, hi, hn => by omega
  | n + 1, i, pos, hi, hn => by
    rw [qd0]
    by_cases h : i < l.length
    · rw [qci h zz3]
      simp (disch := omega) only [wk, bit, nI, qaf, qai, qak, qex]
      rw [qej k hk fu z l roots hl n (i + 1) _ (by omega) (by omega)]
      simp only [qcb, qcc, Bool.and_assoc]
    · rw [List.drop_of_length_le (by omega)]
      simp (disch := omega) only [wk, bit, nI, qao]
      exact qey roots pos
theorem qag (k : Nat) (hk : 2000000 ≤ k) (a0 : Int) (a1z : Bool) (a1 : List (Int × Int × Int)) (hl : (a1.length : Int) ≤ 1048576) : go (k + 6) impl_MeshOk [(.agg [(.int .i64 (a0)), (.arr false (a1z) (.r3 (a1)))])] = some [.bool (qex a0 0 a1)] := by
  rw [qcm]
  exact qej k hk _ _ a1 a0 hl _ 0 0 (by omega) (by omega)
theorem qdt (r n : Nat) (fu : List (Nat × Nat)) : fuelOf ((r, n) :: fu) r = n := by simp [fuelOf, find]
end Go.Proofs.Ytcaapedadpnjoaa
end
section
namespace Go.Proofs.Ytcaapedadpnjoaa
open Go.Ev
theorem qfv {α : Type} (l o : List α) (i : Nat) (d : α) (h : i < l.length) (ho : o.length = l.length) : (o.set i (l.getD i d)).take (i + 1) ++ l.drop (i + 1) = o.take i ++ l.drop i := by
  rw [qci h d]
  have : (o.set i (l.getD i d)).take (i + 1) = o.take i ++ [l.getD i d] := by
    rw [List.take_succ_eq_append_getElem (by simp; omega)]
    simp [List.take_set_of_le]
  rw [this]; simp
theorem qa4 (k : Nat) (hk : 2000000 ≤ k) (a0 : Int) (a1 : Int) (a2 : Int) : go (k + 1) laws_toId [(.agg [(.int .i64 (a0)), (.int .i64 (a1)), (.int .i64 (a2))])] = some [.agg [.int .i64 a0, .int .i64 a1, .int .i64 a2]] := by rw [qda]
theorem qen (k : Nat) (hk : 2000000 ≤ k) (fu : List (Nat × Nat)) (z z' : Bool) (l : List Cell) (hl : (l.length : Int) ≤ 1048576) : ∀ (n i : Nat) (o : List Cell), i ≤ l.length → o.length = l.length → l.length - i < n →
    lp (k + 1) laws_toIdS [] fu 3 (n) (qfo (i : Int) z l z' o) = some [.arr true z' (.r3 (o.take i ++ l.drop i))]
  | 0, i, o, hi, ho, hn => by omega
  | n + 1, i, o, hi, ho, hn => by
    rw [qd6]
    by_cases h : i < l.length
    · simp (disch := omega) only [wk, bit, nI, qa4]
      rw [qen k hk fu z z' l hl n (i + 1) _ (by omega) (by simp [ho]) (by omega)]
      exact congrArg (fun x => some [D.arr true z' (.r3 x)]) (qfv l o i zz3 h ho)
    · simp (disch := omega) only [wk, bit, nI]
      have hil : i = l.length := by omega
      rw [hil, List.drop_length, List.append_nil, List.take_of_length_le (by omega)]
theorem qa5 (k : Nat) (hk : 2000000 ≤ k) (az : Bool) (a : List (Int × Int × Int)) (hl : (a.length : Int) ≤ 1048576) : go (k + 2) laws_toIdS [(.arr false (az) (.r3 (a)))] = some [.arr true false (.r3 a)] := by
  rw [qdb]
  simp (disch := omega) only [wk, bit, nI]
  refine Eq.trans (qen k hk [] az false a hl _ 0 (List.replicate a.length zz3) (by omega) (by simp) (by omega)) ?_
  simp
theorem qa9 (k : Nat) (hk : 2000000 ≤ k) (a0 : Int) (a1z : Bool) (a1 : List (Int × Int × Int)) (hl : (a1.length : Int) ≤ 1048576) : go (k + 3) laws_toMesh [(.agg [(.int .i64 (a0)), (.arr false (a1z) (.r3 (a1)))])] = some [.agg [.int .i64 a0, .arr true false (.r3 a1)]] := by
  rw [qdf]
  simp (disch := omega) only [wk, bit, nI, qa5]
theorem qaz (k : Nat) (hk : 2000000 ≤ k) (az : Bool) (a : List (Int × Int × Int)) (b : Int) (hl : (a.length : Int) ≤ 9223372036854775807) (hb : 0 ≤ b) (hb' : b ≤ 1048576) : go (k + 1) laws_szIdS [(.arr false (az) (.r3 (a))), (.int .i64 (b))] = some [.int .i64 (if (a.length : Int) ≤ b then b - a.length else -1)] := by
  rw [qc5]
  by_cases h : (a.length : Int) ≤ b
  · simp (disch := omega) only [wk, bit, nI, if_pos h]
  · simp (disch := omega) only [wk, bit, nI, if_neg h]
theorem qa2 (k : Nat) (hk : 2000000 ≤ k) (a0 : Int) (a1z : Bool) (a1 : List (Int × Int × Int)) (b : Int) (hl : (a1.length : Int) ≤ 9223372036854775807) (hb : 0 ≤ b) (hb' : b ≤ 1048576) : go (k + 2) laws_szMesh [(.agg [(.int .i64 (a0)), (.arr false (a1z) (.r3 (a1)))]), (.int .i64 (b))] = some [.int .i64 (if (a1.length : Int) ≤ b then b - a1.length else -1)] := by
  rw [qc8]
  simp (disch := omega) only [wk, bit, nI, qaz]
  by_cases h : (a1.length : Int) ≤ b
  · simp (disch := omega) only [wk, bit, nI, if_pos h]
  · simp (disch := omega) only [wk, bit, nI, if_neg h]
theorem qar (k : Nat) (hk : 2000000 ≤ k) (a b c : Int) : go (k + 1) laws_eqId [.agg [.int .i64 a, .int .i64 b, .int .i64 c], .agg [.int .i64 a, .int .i64 b, .int .i64 c]] = some [.bool true] := by
  rw [qcx]; simp
theorem qek (k : Nat) (hk : 2000000 ≤ k) (fu : List (Nat × Nat)) (z z' : Bool) (l : List Cell) (hl : (l.length : Int) ≤ 1048576) : ∀ (n i : Nat), i ≤ l.length → l.length - i < n →
    lp (k + 1) laws_eqIdS [] fu 4 (n) (qfk (i : Int) z l z' l) = some [.bool true]
  | 0, i, hi, hn => by omega
  | n + 1, i, hi, hn => by
    rw [qd2]
    by_cases h : i < l.length
    · simp (disch := omega) only [wk, bit, nI, qar]
      exact qek k hk fu z z' l hl n (i + 1) (by omega) (by omega)
    · simp (disch := omega) only [wk, bit, nI]
theorem qas (k : Nat) (hk : 2000000 ≤ k) (z z' : Bool) (l : List Cell) (hl : (l.length : Int) ≤ 1048576) : go (k + 2) laws_eqIdS [.arr false z (.r3 l), .arr false z' (.r3 l)] = some [.bool true] := by
  rw [qcy]
  simp (disch := omega) only [wk, bit, nI]
  exact qek k hk [] z z' l hl _ 0 (by omega) (by omega)
theorem qaw (k : Nat) (hk : 2000000 ≤ k) (roots : Int) (z z' : Bool) (l : List Cell) (hl : (l.length : Int) ≤ 1048576) : go (k + 3) laws_eqMesh [.agg [.int .i64 roots, .arr false z (.r3 l)], .agg [.int .i64 roots, .arr false z' (.r3 l)]] = some [.bool true] := by
  rw [qc2]
  simp (disch := omega) only [wk, bit, nI, qas]
theorem qeo (k : Nat) (hk : 2000000 ≤ k) (fu : List (Nat × Nat)) (z z' : Bool) (l : List Int) (hl : (l.length : Int) ≤ 1048576) : ∀ (n i : Nat) (o : List Int), i ≤ l.length → o.length = l.length → l.length - i < n →
    lp k laws_toIntS [] fu 3 (n) (qfp (i : Int) z l z' o) = some [.arr true z' (.ints .i64 (o.take i ++ l.drop i))]
  | 0, i, o, hi, ho, hn => by omega
  | n + 1, i, o, hi, ho, hn => by
    rw [qd7]
    by_cases h : i < l.length
    · simp (disch := omega) only [wk, bit, nI]
      rw [qeo k hk fu z z' l hl n (i + 1) _ (by omega) (by simp [ho]) (by omega)]
      exact congrArg (fun x => some [D.arr true z' (.ints .i64 x)]) (qfv l o i 0 h ho)
    · simp (disch := omega) only [wk, bit, nI]
      have hil : i = l.length := by omega
      rw [hil, List.drop_length, List.append_nil, List.take_of_length_le (by omega)]
theorem qa6 (k : Nat) (hk : 2000000 ≤ k) (az : Bool) (a : List Int) (hl : (a.length : Int) ≤ 1048576) : go (k + 1) laws_toIntS [(.arr false (az) (.ints .i64 (a)))] = some [.arr true false (.ints .i64 a)] := by
  rw [qdc]
  simp (disch := omega) only [wk, bit, nI]
  refine Eq.trans (qeo k hk [] az false a hl _ 0 (List.replicate a.length 0) (by omega) (by simp) (by omega)) ?_
  simp
theorem qa0 (k : Nat) (hk : 2000000 ≤ k) (az : Bool) (a : List Int) (b : Int) (hl : (a.length : Int) ≤ 9223372036854775807) (hb : 0 ≤ b) (hb' : b ≤ 1048576) : go (k + 1) laws_szIntS [(.arr false (az) (.ints .i64 (a))), (.int .i64 (b))] = some [.int .i64 (if (a.length : Int) ≤ b then b - a.length else -1)] := by
  rw [qc6]
  by_cases h : (a.length : Int) ≤ b
  · simp (disch := omega) only [wk, bit, nI, if_pos h]
  · simp (disch := omega) only [wk, bit, nI, if_neg h]
theorem qel (k : Nat) (hk : 2000000 ≤ k) (fu : List (Nat × Nat)) (z z' : Bool) (l : List Int) (hl : (l.length : Int) ≤ 1048576) : ∀ (n i : Nat), i ≤ l.length → l.length - i < n →
    lp k laws_eqIntS [] fu 4 (n) (qfl (i : Int) z l z' l) = some [.bool true]
  | 0, i, hi, hn => by omega
  | n + 1, i, hi, hn => by
    rw [qd3]
    by_cases h : i < l.length
    · simp (disch := omega) only [wk, bit, nI]
      exact qel k hk fu z z' l hl n (i + 1) (by omega) (by omega)
    · simp (disch := omega) only [wk, bit, nI]
theorem qat (k : Nat) (hk : 2000000 ≤ k) (z z' : Bool) (l : List Int) (hl : (l.length : Int) ≤ 1048576) : go (k + 1) laws_eqIntS [.arr false z (.ints .i64 l), .arr false z' (.ints .i64 l)] = some [.bool true] := by
  rw [qcz]
  simp (disch := omega) only [wk, bit, nI]
  exact qel k hk [] z z' l hl _ 0 (by omega) (by omega)
end Go.Proofs.Ytcaapedadpnjoaa
end
section
namespace Go.Proofs.Ytcaapedadpnjoaa
open Go Go.RowKit Go.Ev
abbrev zFr : List RK := [.n, .n, .r3, .n, .n, .n, .is]
def okFr : List RC → Bool
  | [.n _, .n _, .r3 _ l, .n _, .n _, .n _, .is _ c] => decide ((l.length : Int) ≤ 1048576) && decide ((c.length : Int) ≤ 1048576)
  | _ => false
def cpFr : List RC → List RC
  | [.n a, .n b, .r3 _ l, .n c, .n d, .n e, .is _ m] => [.n a, .n b, .r3 false l, .n c, .n d, .n e, .is false m]
  | r => r
theorem qa3 (k : Nat) (hk : 2000000 ≤ k) (a b c d e : Int) (z1 z2 : Bool) (l : List Cell) (m : List Int) (hl : (l.length : Int) ≤ 1048576) (hm : (m.length : Int) ≤ 1048576) :
    go (k + 4) laws_toFrame [.agg [.int .i64 a, .int .i64 b, .arr false z1 (.r3 l), .int .i64 c, .int .i64 d, .int .i64 e, .arr false z2 (.ints .i64 m)]] = some [.agg [.int .i64 a, .int .i64 b, .arr true false (.r3 l), .int .i64 c, .int .i64 d, .int .i64 e, .arr true false (.ints .i64 m)]] := by
  rw [qc9]
  simp (disch := omega) only [wk, bit, nI, qa9, qa6]
def dsO : List RC → List D
  | [] => []
  | .n x :: r => .int .i64 x :: dsO r
  | .is nil l :: r => .arr true nil (.ints .i64 l) :: dsO r
  | .r3 nil l :: r => .arr true nil (.r3 l) :: dsO r
theorem qfb : ∀ r : List RC, ros (dsO r) = dsR r
  | [] => rfl
  | .n x :: r => by rw [dsO, dsR, ros, qfb r]; rfl
  | .is nil l :: r => by rw [dsO, dsR, ros, qfb r]; rfl
  | .r3 nil l :: r => by rw [dsO, dsR, ros, qfb r]; rfl
theorem qe5 {w : World} {b off : Nat} : ∀ (r : List RC) {us : List Value} {F : Feet}, RepDs w (dsO r) us F → innR (zsR r) us b off → ownOf F b off
  | [], us, F, h, hi => by simp only [zsR, innR] at hi
  | .n x :: r, us, F, h, hi => by
    simp only [dsO, RepDs, RepD] at h
    obtain ⟨u, us', F1, F2, rfl, rfl, ⟨rfl, rfl⟩, h2⟩ := h
    simp only [zsR, innR, kspan, false_or] at hi
    obtain ⟨A, hA, h1, h3⟩ := qe5 r h2 hi
    exact ⟨A, by simp [hA], h1, h3⟩
  | .is nil l :: r, us, F, h, hi => by
    simp only [dsO, RepDs, RepD] at h
    obtain ⟨u, us', F1, F2, rfl, rfl, ⟨p, rfl, hr, rfl⟩, h2⟩ := h
    simp only [zsR, innR, kspan] at hi
    rcases hi with ⟨x, n, c, e, hb, _⟩ | hi
    · exact ⟨(true, foot p (.arr true nil (.ints .i64 l))), by simp, rfl, by
        injection e with e1 e2 e3
        exact ⟨x, e1, hb, .inl rfl⟩⟩
    · obtain ⟨A, hA, h1, h3⟩ := qe5 r h2 hi
      exact ⟨A, by simp [hA], h1, h3⟩
  | .r3 nil l :: r, us, F, h, hi => by
    simp only [dsO, RepDs, RepD] at h
    obtain ⟨u, us', F1, F2, rfl, rfl, ⟨p, rfl, hr, rfl⟩, h2⟩ := h
    simp only [zsR, innR, kspan] at hi
    rcases hi with ⟨x, n, c, e, hb, _⟩ | hi
    · exact ⟨(true, foot p (.arr true nil (.r3 l))), by simp, rfl, by
        injection e with e1 e2 e3
        exact ⟨x, e1, hb, .inl rfl⟩⟩
    · obtain ⟨A, hA, h1, h3⟩ := qe5 r h2 hi
      exact ⟨A, by simp [hA], h1, h3⟩
end Go.Proofs.Ytcaapedadpnjoaa
end
section
namespace Go.Proofs.Ytcaapedadpnjoaa
open Go Go.RowKit Go.Ev
theorem qds {w : World} {b o : Nat} {vs : List Value} (ht : w.there b o vs.length) (h1 : ∀ u ∈ vs, u.oneCell' = true) : Fr (Span b o vs.length) w (w.setCells b o vs) := by
  obtain ⟨w', hr, hf, _⟩ := storeCells_ok (P := Try.prog) ⟨b, o, none⟩ rfl vs 0 w (fun j hj => by
    rw [Addr.add_mid, Nat.zero_add]
    exact ⟨Option.isSome_iff_exists.1 (ht j hj).1, (ht j hj).2⟩) h1
  have e := run_storeCells_cells (P := Try.prog) b o vs 0 w (fun j hj => (ht j hj).1) (fun j hj => (ht j hj).2) h1
  rw [e] at hr
  cases hr
  exact hf
theorem qdr {M : Nat → Nat → Prop} {w w' : World} (f : Fr M w w') (hm : ∀ b off, b < w.heap.size → ¬ M b off) : RowKit.Below w.heap.size w w' :=
  Fr.below (f.mono fun b off hb h => hm b off hb h)
theorem qe9 {N b o : Nat} {cs : List Value} {w w' : World} (h : RowKit.Below N w w') (hb : b < N) (r : w.rangeAt b o cs) : w'.rangeAt b o cs := fun j v hv => (h.cell (p := ⟨b, o + j, none⟩) hb).trans (r j v hv)
theorem qf5 {M : Nat → Nat → Prop} {b o n : Nat} {w w' : World} (h : RowKit.Below w.heap.size w w') (r : w.there b o n) : w'.there b o n := fun j hj => by
  obtain ⟨v, hv⟩ := Option.isSome_iff_exists.1 (r j hj).1
  have hb := World.block_lt_of_cell? w _ hv
  refine ⟨?_, ?_⟩
  · rw [h.cell hb, hv]; rfl
  · have f : Fr (fun _ _ => False) w w' := fr_of_below h
    rw [f.frozen hb]; exact (r j hj).2
def TfsI (w : World) (l : List (List RC)) (k : Nat) (wr : World) : Prop := ∃ uss : List (List Value), RowsL wr zFr uss ((l.take k).map cpFr) ∧ wr.rangeAt w.heap.size 0 uss.flatten ∧ wr.there w.heap.size 0 (l.length * 7) ∧
  (∀ us ∈ uss, ∀ b off, innR zFr us b off → w.heap.size < b) ∧ Fr (fun b _ => b = w.heap.size) w wr ∧ w.heap.size < wr.heap.size
theorem qf6 {w : World} {b o n m : Nat} (h : w.there b 0 n) (hm : o + m ≤ n) : w.there b o m := fun j hj => by
  have := h (o + j) (by omega)
  rwa [Nat.zero_add] at this
theorem TfsI.step {w wr W : World} {l : List (List RC)} {k : Nat} {vs : List Value} (I : TfsI w l k wr) (hk : k < l.length) (hb : RowKit.Below wr.heap.size wr W) (hv : RowL W zFr vs (cpFr (l.getD k []))) (hn : ∀ b off, innR zFr vs b off → wr.heap.size ≤ b) :
    W.there w.heap.size (k * 7) vs.length ∧ (∀ u ∈ vs, u.oneCell' = true) ∧ TfsI w l (k + 1) (W.setCells w.heap.size (k * 7) vs) := by
  obtain ⟨uss, hR, hC, hT, hI, hF, hS⟩ := I
  have h1 := hv.one
  have v7 : vs.length = 7 := hv.len.1
  have hT' := qf5 (M := fun _ _ => False) hb hT
  have hT2 : W.there w.heap.size (k * 7) vs.length := qf6 hT' (by rw [v7]; omega)
  have fs := qds hT2 h1
  have tk : (l.take k).length = k := by rw [List.length_take]; omega
  have ul : uss.flatten.length = k * 7 := by
    have := hR.flat
    rw [List.length_map, tk] at this
    exact this
  have e : (l.take (k + 1)).map cpFr = (l.take k).map cpFr ++ [cpFr (l.getD k [])] := by
    rw [List.take_succ_eq_append_getElem hk, List.map_append]
    simp [hk]
  refine ⟨hT2, h1, uss ++ [vs], ?_, ?_, World.there_setCells hT' _ _ _, ?_, ?_, ?_⟩
  · rw [e]
    have g1 : RowsL W zFr uss ((l.take k).map cpFr) := hR.frame (N := fun _ _ => False) (fr_of_below hb) fun _ _ _ h => h
    have g2 : RowsL (W.setCells w.heap.size (k * 7) vs) zFr uss ((l.take k).map cpFr) := g1.frame fs fun b off ⟨us, hu, h⟩ hs => by
      have := hI us hu b off h
      have := hs.1
      omega
    have g3 : RowL (W.setCells w.heap.size (k * 7) vs) zFr vs (cpFr (l.getD k [])) := hv.frame fs fun b off h hs => by
      have := hn b off h
      have := hs.1
      omega
    exact RowsL.app (vss := [vs]) ⟨_, [], rfl, g3, rfl⟩ g2
  · rw [List.flatten_append]
    have a1 := World.rangeAt_setCells_apart (qe9 hb hS hC) w.heap.size (k * 7) vs (.inr (.inl (by omega)))
    have a2 := World.rangeAt_setCells_same W w.heap.size (k * 7) vs hT2
    intro j v hj
    by_cases hlt : j < uss.flatten.length
    · rw [List.getElem?_append_left hlt] at hj
      exact a1 j v hj
    · rw [List.getElem?_append_right (by omega)] at hj
      have := a2 (j - uss.flatten.length) v (by simpa using hj)
      rwa [show k * 7 + (j - uss.flatten.length) = 0 + j by omega] at this
  · intro us hu b off h
    rcases List.mem_append.1 hu with hu | hu
    · exact hI us hu b off h
    · rw [List.mem_singleton] at hu
      subst hu
      have := hn b off h
      omega
  · exact hF.trans ((fr_of_below hb).trans (fs.mono fun b off _ h => h.1))
  · have := hb.size; have := fs.size; omega
theorem qf1 {r : List RC} (hok : okFr r = true) {W : World} {us : List Value} (hr : RowL W zFr us r) :
    Calls Try.prog 54 #[.agg us.toArray] W fun e W' => ∃ vs : List Value, e = .returned (.agg vs.toArray) ∧ RowL W' zFr vs (cpFr r) ∧ (∀ b off, innR zFr vs b off → W.heap.size ≤ b) ∧ RowKit.Below W.heap.size W W' := by
  unfold okFr at hok
  split at hok
  · rename_i a b z1 l c d e z2 m
    simp only [Bool.and_eq_true, decide_eq_true_eq] at hok
    obtain ⟨_, F, hF, sF⟩ := ds_of_row hr
    have ct : Contract Try.prog 54 [] [.agg (dsR [.n a, .n b, .r3 z1 l, .n c, .n d, .n e, .is z2 m])] [.agg (dsO (cpFr [.n a, .n b, .r3 z1 l, .n c, .n d, .n e, .is z2 m]))] := by
      have e1 : ev Try.prog An (2000000 + 4) 54 [.agg (dsR [.n a, .n b, .r3 z1 l, .n c, .n d, .n e, .is z2 m])] = some [.agg (dsO (cpFr [.n a, .n b, .r3 z1 l, .n c, .n d, .n e, .is z2 m]))] :=
        qa3 2000000 (by omega) a b c d e z1 z2 l m hok.1 hok.2
      exact ev_contract good noExt e1
    refine (ct.one (args := #[.agg us.toArray]) (F := F) (by
      simp only [RepDs, RepD]
      exact ⟨_, [], F, [], rfl, (List.append_nil F).symm, ⟨us.toArray, rfl, by simpa using hF⟩, rfl, rfl⟩) sF).mono ?_
    rintro e' W' ⟨v, F', rfl, hv, hs, hn, hb⟩
    simp only [RepD] at hv
    obtain ⟨va, rfl, hv⟩ := hv
    refine ⟨va.toList, by simp, ?_, fun b off hi => hn b off (qe5 _ hv hi), hb⟩
    obtain ⟨G, hG, _⟩ := RepDs.ro _ hv
    rw [qfb] at hG
    exact row_of_ds _ hG
  · cases hok
end Go.Proofs.Ytcaapedadpnjoaa
end
section
namespace Go.Proofs.Ytcaapedadpnjoaa
open Go Go.RowKit Go.Ev
theorem qfc {w wr : World} {x : Addr} {inn : List (List Value)} {l : List (List RC)} {k : Nat} (hR : RowsL w zFr inn l) (hC : CellsL w x inn.flatten) (hk : k < l.length) (hF : Fr (fun b _ => b = w.heap.size) w wr) :
    ∃ (us : List Value) (Ab Ao : Nat), x.add (k * 7) = ⟨Ab, Ao, none⟩ ∧ us.length = 7 ∧ wr.rangeAt Ab Ao us ∧ RowL wr zFr us (l.getD k []) := by
  obtain ⟨h1, h2, h3⟩ := hR.get hk
  have u7 : (inn.getD k []).length = 7 := h1.len.1
  have hc : ∀ j v, (inn.getD k [])[j]? = some v → w.cell? (x.add (k * 7 + j)) = some v := by
    intro j v hj
    rw [← h3] at hj
    rw [List.getElem?_take] at hj
    split at hj
    · rw [List.getElem?_drop] at hj
      exact hC _ v hj
    · cases hj
  obtain ⟨v0, hv0⟩ : ∃ v, (inn.getD k [])[0]? = some v := ⟨_, List.getElem?_eq_getElem (by omega)⟩
  have c0 := hc 0 v0 hv0
  have sp := World.cell?_spot c0
  obtain ⟨Ab, Ao, hA⟩ : ∃ Ab Ao, x.add (k * 7) = ⟨Ab, Ao, none⟩ := by
    rw [Nat.add_zero] at sp
    cases h : x.add (k * 7) with
    | mk b o s => rw [h] at sp; exact ⟨b, o, by rw [show s = none from sp]⟩
  refine ⟨inn.getD k [], Ab, Ao, hA, u7, fun j v hj => ?_, h1.frame hF fun b off h e => ?_⟩
  · have := hc j v hj
    have e : x.add (k * 7 + j) = ⟨Ab, Ao + j, none⟩ := by
      rw [← Addr.add_add, hA, Addr.add_mid]
    rw [e] at this
    have hb := World.block_lt_of_cell? w _ this
    exact hF.cell this fun h => by
      have h : Ab = w.heap.size := h
      have hb : Ab < w.heap.size := hb
      omega
  · have := h1.lt h
    omega
set_option maxRecDepth 100000 in
set_option maxHeartbeats 2000000 in
theorem qf4 {z : Bool} {l : List (List RC)} (hl : l.length ≤ 1048576) (hok : ∀ i, i < l.length → okFr (l.getD i []) = true) (w : World) (sl : Option Addr) (cap : Nat) (inn : List (List Value)) (hR : RowsL w zFr inn l) (hC : ∀ x, sl = some x → CellsL w x inn.flatten) (h0 : sl = none → l.length = 0) (hcap : l.length ≤ cap ∨ sl = none) :
    Calls Try.prog 17 #[.slice sl l.length cap] w fun e w' => e = .returned (.slice (some ⟨w.heap.size, 0, none⟩) l.length l.length) ∧ TfsI w l l.length w' := by
  obtain ⟨i, hi, hz, hsz, hby⟩ : ∃ i, Try.prog.info? 73 = some i ∧ i.zero = some (.agg #[.int .i64 0, .int .i64 0, .slice none 0 0, .int .i64 0, .int .i64 0, .int .i64 0, .slice none 0 0]) ∧ i.size = 7 ∧ i.bytes = 88 := by
    have e : (Try.prog.info? 73).map (fun i => (i.zero, i.size, i.bytes)) = some (some (.agg #[.int .i64 0, .int .i64 0, .slice none 0 0, .int .i64 0, .int .i64 0, .int .i64 0, .slice none 0 0]), 7, 88) := by kernel_rfl
    obtain ⟨i, h1, h2⟩ := Option.map_eq_some_iff.1 e
    simp only [Prod.mk.injEq] at h2
    exact ⟨i, h1, h2⟩
  obtain ⟨z0, hz0⟩ : ∃ z0 : Value, z0 = .agg #[.int .i64 0, .int .i64 0, .slice none 0 0, .int .i64 0, .int .i64 0, .int .i64 0, .slice none 0 0] := ⟨_, rfl⟩
  rw [← hz0] at hz
  have hmk := run_make (P := Try.prog) w 41 73 i z0 Try.underlying41 hi hz .i64 .i64 (l.length : Int) (l.length : Int) (by omega) (Int.le_refl _) (by rw [hby]; omega) (by omega)
  rw [Int.toNat_natCast, hsz] at hmk
  obtain ⟨w1, hw1⟩ : ∃ w1, w1 = w.alloc (.cells (madeCells z0.cells (l.length * 7)) 73) := ⟨_, rfl⟩
  rw [← hw1] at hmk
  clear hi hz hsz hby
  go_enter Try.func17, Try.ntmps17
  have I0 : TfsI w l 0 w1 := by
    have hh : w1.heap[w.heap.size]? = some (.cells (madeCells z0.cells (l.length * 7)) 73 (0, 0)) := by rw [hw1]; exact heap_alloc_new w _
    refine ⟨[], rfl, (fun j v hj => by simp at hj), (fun j hj => ⟨?_, ?_⟩), (fun us hu => by cases hu), (by rw [hw1]; exact (fr_alloc w _).mono fun _ _ _ h => h.elim), (by rw [hw1]; simp)⟩
    · simp only [World.cell?, hh]
      rw [Nat.zero_add, Array.getElem?_eq_getElem (by rw [size_madeCells]; exact hj)]; rfl
    · simp [World.frozen?, hh]
  clear hw1
  go_wp2
  go_loopw [4] (fun i wr => ∃ k : Nat, k ≤ l.length ∧ i = .int .i64 k ∧ TfsI w l k wr) (fun i _ => l.length - (RowKit.intOf i).toNat)
  case atStart => exact ⟨0, Nat.zero_le _, rfl, I0⟩
  case round =>
    obtain ⟨k, hkl, rfl, hI⟩ := hrel
    by_cases hlt : k < l.length
    · obtain ⟨x, rfl⟩ : ∃ x, sl = some x := by
        cases h : sl with
        | none => have := h0 h; omega
        | some x => exact ⟨x, rfl⟩
      have hI' := hI
      obtain ⟨_, _, _, _, _, hF, hS⟩ := hI'
      obtain ⟨us, Ab, Ao, hA, u7, hra, hrow⟩ := qfc hR (hC x rfl) hlt hF
      have hcall := qf1 (hok k hlt) hrow
      have hload := run_loadAt_mid (P := Try.prog) wr Ab Ao 94 us _ hra Try.underlying94 rfl (by rw [u7]; kernel_rfl)
      go_wp2_with (first | (refine wp_load_mid _ _ rfl Ab Ao (by first | rfl | simp | simp [hA]) us _ hra Try.underlying94 rfl (by rw [u7]; kernel_rfl) ?_) | (refine wpList_load_mid rfl _ _ rfl Ab Ao (by first | rfl | simp | simp [hA]) us _ hra Try.underlying94 rfl (by rw [u7]; kernel_rfl) ?_))
      refine hcall.mono ?_
      rintro e W ⟨vs, rfl, hv, hn, hb⟩
      obtain ⟨ht, h1, I2⟩ := hI.step hlt hb hv hn
      have v7 : vs.length = 7 := hv.len.1
      have hst := run_storeCells_cells (P := Try.prog) w.heap.size (k * 7) vs 0 W (fun j hj => (ht j hj).1) (fun j hj => (ht j hj).2) h1
      rw [Nat.add_zero] at hst
      clear hcall hload hra hrow ht h1
      go_wp2
      go_roundw
      case rel => exact ⟨k + 1, by omega, by go_num, I2⟩
      case measure => simp [RowKit.intOf]; omega
    · obtain rfl : k = l.length := by omega
      go_wp2
      go_ret
      exact ⟨rfl, hI⟩
end Go.Proofs.Ytcaapedadpnjoaa
end
section
namespace Go.Proofs.Ytcaapedadpnjoaa
open Go.Ev
set_option maxRecDepth 20000
def qff (x0 x1 x2 x3 x4 x5 : Int) (z6 : Bool) (l7 : LI) (z8 : Bool) (l9 : LI) : St := ⟨fill 82 [(0, .sl 0 none), (1, .int .i64 x0), (6, .sl 1 none), (7, .int .i64 x1), (8, .int .i64 x2), (10, .int .i64 x3), (65, .int .i64 x4), (66, .int .i64 x5)], [], [.arr false z6 (.ints .i64 l7), .arr true z8 (.ints .i64 l9)]⟩
def qfg (x0 x1 x2 : Int) (z3 : Bool) (l4 : LI) (z5 : Bool) (l6 : LI) : St := ⟨fill 82 [(0, .sl 0 none), (1, .int .i64 x0), (6, .sl 1 none), (7, .int .i64 x1), (8, .int .i64 x2)], [], [.arr false z3 (.ints .i64 l4), .arr true z5 (.ints .i64 l6)]⟩
theorem qcj (k : Nat) (az : Bool) (a : LI) (b : Int) : go (k + 1) impl_DecompressList [.arr false az (.ints .i64 a), .int .i64 b] =
 (go k impl_isQuantum [.int .i64 b]).bind fun r0 =>
 cond (!bit (nth r0 0))
 (some [.arr true true (.ints .i64 []), .bool false])
 (cond (!decide (Int.tmod (nI (List.length a)) 2 = 0))
 (some [.arr true true (.ints .i64 []), .bool false])
 (cond (decide (2000 < nI (List.length a)))
 (some [.arr true true (.ints .i64 []), .bool false])
 (lp k impl_DecompressList [] [] 6 k (qfg b 0 0 az a false [])))) := by kernel_rfl
theorem qdx (k n : Nat) (fu : FU) (x0 x1 x2 x3 x4 x5 : Int) (z6 : Bool) (l7 : LI) (z8 : Bool) (l9 : LI) : lp k impl_DecompressList [] fu 12 (n + 1) (qff x0 x1 x2 x3 x4 x5 z6 l7 z8 l9) =
 cond (decide (x5 < x4))
 ((go k impl_isMass [.int .i64 (IntKind.wrap .i64 (x1 + x3))]).bind fun r0 =>
 cond (!bit (nth r0 0))
 (some [.arr true true (.ints .i64 []), .bool false])
 (cond (decide (List.length (l9 ++ [IntKind.wrap .i64 (x0 * IntKind.wrap .i64 (x1 + x3))]) ≤ bigLen))
 (lp k impl_DecompressList [] fu 12 n (qff x0 (IntKind.wrap .i64 (x1 + x3)) x2 x3 x4 (IntKind.wrap .i64 (x5 + 1)) z6 l7 (z8 && decide (List.length (l9 ++ [IntKind.wrap .i64 (x0 * IntKind.wrap .i64 (x1 + x3))]) = 0)) (l9 ++ [IntKind.wrap .i64 (x0 * IntKind.wrap .i64 (x1 + x3))])))
 none))
 (lp k impl_DecompressList [] fu 6 (fuelOf fu 6) (qfg x0 x1 (IntKind.wrap .i64 (x2 + 2)) z6 l7 z8 l9)) := by kernel_rfl
theorem qdy (k n : Nat) (fu : FU) (x0 x1 x2 : Int) (z3 : Bool) (l4 : LI) (z5 : Bool) (l6 : LI) : lp k impl_DecompressList [] fu 6 (n + 1) (qfg x0 x1 x2 z3 l4 z5 l6) =
 cond (decide (x2 < nI (List.length l4)))
 (cond (decide (0 ≤ x2) && decide (x2 < nI (List.length l4)))
 (cond (decide (0 ≤ IntKind.wrap .i64 (x2 + 1)) && decide (IntKind.wrap .i64 (x2 + 1) < nI (List.length l4)))
 ((go k impl_within [.int .i64 (List.getD l4 (Int.toNat x2) 0), .int .i64 1, .int .i64 (IntKind.wrap .i64 (1000 - nI (List.length l6)))]).bind fun r0 =>
 cond (!bit (nth r0 0))
 (some [.arr true true (.ints .i64 []), .bool false])
 (cond (decide (0 < x2))
 (cond (decide (0 ≤ IntKind.wrap .i64 (x2 - 1)) && decide (IntKind.wrap .i64 (x2 - 1) < nI (List.length l4)))
 (cond (decide (List.getD l4 (Int.toNat (IntKind.wrap .i64 (x2 + 1))) 0 = List.getD l4 (Int.toNat (IntKind.wrap .i64 (x2 - 1))) 0))
 (some [.arr true true (.ints .i64 []), .bool false])
 ((go k impl_within [.int .i64 (List.getD l4 (Int.toNat (IntKind.wrap .i64 (x2 + 1))) 0), .int .i64 ((-10000000 : Int)), .int .i64 10000000]).bind fun r1 =>
 cond (!bit (nth r1 0))
 (some [.arr true true (.ints .i64 []), .bool false])
 (lp k impl_DecompressList [] ((6, n) :: fu) 12 k (qff x0 x1 x2 (List.getD l4 (Int.toNat (IntKind.wrap .i64 (x2 + 1))) 0) (List.getD l4 (Int.toNat x2) 0) 0 z3 l4 z5 l6))))
 none)
 ((go k impl_within [.int .i64 (List.getD l4 (Int.toNat (IntKind.wrap .i64 (x2 + 1))) 0), .int .i64 ((-10000000 : Int)), .int .i64 10000000]).bind fun r2 =>
 cond (!bit (nth r2 0))
 (some [.arr true true (.ints .i64 []), .bool false])
 (lp k impl_DecompressList [] ((6, n) :: fu) 12 k (qff x0 x1 x2 (List.getD l4 (Int.toNat (IntKind.wrap .i64 (x2 + 1))) 0) (List.getD l4 (Int.toNat x2) 0) 0 z3 l4 z5 l6)))))
 none)
 none)
 (some [.arr true z5 (.ints .i64 l6), .bool true]) := by kernel_rfl
def qfr (x0 x1 x2 x3 : Int) (z4 : Bool) (l5 : LI) (z6 : Bool) (l7 : LI) (z8 : Bool) (l9 : LI) : St := ⟨fill 95 [(0, .sl 0 none), (1, .int .i64 x0), (6, .sl 1 none), (7, .sl 2 none), (8, .int .i64 x1), (9, .int .i64 x2), (10, .int .i64 x3)], [], [.arr false z4 (.ints .i64 l5), .arr true z6 (.ints .i64 l7), .arr true z8 (.ints .i64 l9)]⟩
def qfs (x0 x1 x2 : Int) (z3 : Bool) (l4 : LI) (z5 : Bool) (l6 : LI) (z7 : Bool) (l8 : LI) : St := ⟨fill 95 [(0, .sl 0 none), (1, .int .i64 x0), (6, .sl 1 none), (7, .sl 2 none), (8, .int .i64 x1), (9, .int .i64 x2)], [], [.arr false z3 (.ints .i64 l4), .arr true z5 (.ints .i64 l6), .arr true z7 (.ints .i64 l8)]⟩
theorem qdg (k : Nat) (az : Bool) (a : LI) (b : Int) : go (k + 1) spec_DecompressList [.arr false az (.ints .i64 a), .int .i64 b] =
 (go k spec_l01In [.int .i64 b, .int .i64 1, .int .i64 1000000]).bind fun r0 =>
 cond (!bit (nth r0 0))
 (some [.arr true false (.ints .i64 []), .bool false])
 (cond (!decide (Int.tmod (nI (List.length a)) 2 = 0))
 (some [.arr true false (.ints .i64 []), .bool false])
 (cond (decide (2000 < nI (List.length a)))
 (some [.arr true false (.ints .i64 []), .bool false])
 (lp k spec_DecompressList [] [] 7 k (qfs b 0 0 az a false [] false [])))) := by kernel_rfl
theorem qd9 (k n : Nat) (fu : FU) (x0 x1 x2 x3 : Int) (z4 : Bool) (l5 : LI) (z6 : Bool) (l7 : LI) (z8 : Bool) (l9 : LI) : lp k spec_DecompressList [] fu 12 (n + 1) (qfr x0 x1 x2 x3 z4 l5 z6 l7 z8 l9) =
 cond (decide (0 ≤ x2) && decide (x2 < nI (List.length l5)))
 (cond (decide (x3 < List.getD l5 (Int.toNat x2) 0))
 (cond (decide (0 ≤ IntKind.wrap .i64 (x2 + 1)) && decide (IntKind.wrap .i64 (x2 + 1) < nI (List.length l5)))
 ((go k spec_l01In [.int .i64 (List.getD l5 (Int.toNat (IntKind.wrap .i64 (x2 + 1))) 0), .int .i64 ((-10000000 : Int)), .int .i64 10000000]).bind fun r0 =>
 cond (!bit (nth r0 0))
 (some [.arr true z6 (.ints .i64 l7), .bool false])
 (cond (decide (0 ≤ IntKind.wrap .i64 (x2 + 1)) && decide (IntKind.wrap .i64 (x2 + 1) < nI (List.length l5)))
 ((go k spec_l01In [.int .i64 (IntKind.wrap .i64 (x1 + List.getD l5 (Int.toNat (IntKind.wrap .i64 (x2 + 1))) 0)), .int .i64 0, .int .i64 10000000]).bind fun r1 =>
 cond (!bit (nth r1 0))
 (some [.arr true z6 (.ints .i64 l7), .bool false])
 (cond (decide (List.length (l9 ++ [IntKind.wrap .i64 (IntKind.wrap .i64 (x1 + List.getD l5 (Int.toNat (IntKind.wrap .i64 (x2 + 1))) 0) * x0)]) ≤ bigLen))
 (lp k spec_DecompressList [] fu 12 n (qfr x0 (IntKind.wrap .i64 (x1 + List.getD l5 (Int.toNat (IntKind.wrap .i64 (x2 + 1))) 0)) x2 (IntKind.wrap .i64 (x3 + 1)) z4 l5 z6 l7 (z8 && decide (List.length (l9 ++ [IntKind.wrap .i64 (IntKind.wrap .i64 (x1 + List.getD l5 (Int.toNat (IntKind.wrap .i64 (x2 + 1))) 0) * x0)]) = 0)) (l9 ++ [IntKind.wrap .i64 (IntKind.wrap .i64 (x1 + List.getD l5 (Int.toNat (IntKind.wrap .i64 (x2 + 1))) 0) * x0)])))
 none))
 none))
 none)
 (lp k spec_DecompressList [] fu 7 (fuelOf fu 7) (qfs x0 x1 (IntKind.wrap .i64 (x2 + 2)) z4 l5 z6 l7 z8 l9)))
 none := by kernel_rfl
theorem qea (k n : Nat) (fu : FU) (x0 x1 x2 : Int) (z3 : Bool) (l4 : LI) (z5 : Bool) (l6 : LI) (z7 : Bool) (l8 : LI) : lp k spec_DecompressList [] fu 7 (n + 1) (qfs x0 x1 x2 z3 l4 z5 l6 z7 l8) =
 cond (decide (x2 < nI (List.length l4)))
 (cond (decide (0 ≤ x2) && decide (x2 < nI (List.length l4)))
 ((go k spec_l01In [.int .i64 (List.getD l4 (Int.toNat x2) 0), .int .i64 1, .int .i64 (IntKind.wrap .i64 (1000 - nI (List.length l8)))]).bind fun r0 =>
 cond (!bit (nth r0 0))
 (some [.arr true z5 (.ints .i64 l6), .bool false])
 (cond (decide (0 < x2))
 (cond (decide (0 ≤ IntKind.wrap .i64 (x2 + 1)) && decide (IntKind.wrap .i64 (x2 + 1) < nI (List.length l4)))
 (cond (decide (0 ≤ IntKind.wrap .i64 (x2 - 1)) && decide (IntKind.wrap .i64 (x2 - 1) < nI (List.length l4)))
 (cond (decide (List.getD l4 (Int.toNat (IntKind.wrap .i64 (x2 + 1))) 0 = List.getD l4 (Int.toNat (IntKind.wrap .i64 (x2 - 1))) 0))
 (some [.arr true z5 (.ints .i64 l6), .bool false])
 (lp k spec_DecompressList [] ((7, n) :: fu) 12 k (qfr x0 x1 x2 0 z3 l4 z5 l6 z7 l8)))
 none)
 none)
 (lp k spec_DecompressList [] ((7, n) :: fu) 12 k (qfr x0 x1 x2 0 z3 l4 z5 l6 z7 l8))))
 none)
 (some [.arr true z7 (.ints .i64 l8), .bool true]) := by kernel_rfl
theorem qcn (k : Nat) (a0 a1 : Int) (a2z : Bool) (a2 : L3) (a3 a4 a5 : Int) (a6z : Bool) (a6 : LI) : go (k + 1) impl_ReadFrame [.agg [.int .i64 a0, .int .i64 a1, .arr false a2z (.r3 a2), .int .i64 a3, .int .i64 a4, .int .i64 a5, .arr false a6z (.ints .i64 a6)]] =
 (go k impl_DecompressList [.arr false a6z (.ints .i64 a6), .int .i64 a5]).bind fun r0 =>
 cond (!bit (nth r0 1))
 (some [.arr true true (.ints .i64 []), .bool false])
 ((go k impl_MeshOk [.agg [.int .i64 a1, .arr false a2z (.r3 a2)]]).bind fun r1 =>
 cond (!bit (nth r1 0))
 (some [.arr true true (.ints .i64 []), .bool false])
 (cond (!decide (nI (List.length (D.ints (nth r0 0))) = nI (List.length a2)))
 (some [.arr true true (.ints .i64 []), .bool false])
 (some [.arr true (D.nil (nth r0 0)) (.ints .i64 (D.ints (nth r0 0))), .bool true]))) := by kernel_rfl
theorem qdk (k : Nat) (a0 a1 : Int) (a2z : Bool) (a2 : L3) (a3 a4 a5 : Int) (a6z : Bool) (a6 : LI) : go (k + 1) spec_ReadFrame [.agg [.int .i64 a0, .int .i64 a1, .arr false a2z (.r3 a2), .int .i64 a3, .int .i64 a4, .int .i64 a5, .arr false a6z (.ints .i64 a6)]] =
 (go k spec_DecompressList [.arr false a6z (.ints .i64 a6), .int .i64 a5]).bind fun r0 =>
 cond (!bit (nth r0 1))
 (some [.arr true false (.ints .i64 []), .bool false])
 ((go k spec_MeshOk [.agg [.int .i64 a1, .arr false a2z (.r3 a2)]]).bind fun r1 =>
 cond (!bit (nth r1 0))
 (some [.arr true false (.ints .i64 []), .bool false])
 (cond (!decide (nI (List.length (D.ints (nth r0 0))) = nI (List.length a2)))
 (some [.arr true false (.ints .i64 []), .bool false])
 (some [.arr true (D.nil (nth r0 0)) (.ints .i64 (D.ints (nth r0 0))), .bool true]))) := by kernel_rfl
def qfh (x0 x1 : Int) (z2 : Bool) (l3 : List (List RC)) (z4 : Bool) (l5 : L4) : St := ⟨fill 75 [(0, .sl 0 none), (1, .sl 1 none), (17, .sl 0 none), (18, .int .i64 x0), (19, .int .i64 x1)], [], [.rows false z2 [.n, .n, .r3, .n, .n, .n, .is] l3, .arr false z4 (.r4 l5)]⟩
theorem qck (k : Nat) (az : Bool) (a : List (List RC)) (bz : Bool) (b : L4) : go (k + 1) impl_FramesHold [.rows az [.n, .n, .r3, .n, .n, .n, .is] a, .arr false bz (.r4 b)] =
 cond (!decide (nI (List.length b) = IntKind.wrap .i64 (nI (List.length a) - 1)))
 (some [.bool false])
 (lp k impl_FramesHold [] [] 4 k (qfh (nI (List.length a)) 0 az a bz b)) := by kernel_rfl
theorem qdz (k n : Nat) (fu : FU) (x0 x1 : Int) (z2 : Bool) (l3 : List (List RC)) (z4 : Bool) (l5 : L4) : lp k impl_FramesHold [] fu 4 (n + 1) (qfh x0 x1 z2 l3 z4 l5) =
 cond (decide (x1 < x0))
 (cond (decide (0 ≤ x1) && decide (x1 < nI (List.length l3)))
 ((go k impl_ReadFrame [.agg [.int .i64 (RC.num (rcAt (rrow l3 (Int.toNat x1)) 0)), .int .i64 (RC.num (rcAt (rrow l3 (Int.toNat x1)) 1)), .arr false (RC.nil (rcAt (rrow l3 (Int.toNat x1)) 2)) (.r3 (RC.r3s (rcAt (rrow l3 (Int.toNat x1)) 2))), .int .i64 (RC.num (rcAt (rrow l3 (Int.toNat x1)) 3)), .int .i64 (RC.num (rcAt (rrow l3 (Int.toNat x1)) 4)), .int .i64 (RC.num (rcAt (rrow l3 (Int.toNat x1)) 5)), .arr false (RC.nil (rcAt (rrow l3 (Int.toNat x1)) 6)) (.ints .i64 (RC.ints (rcAt (rrow l3 (Int.toNat x1)) 6)))]]).bind fun r0 =>
 cond (!bit (nth r0 1))
 (some [.bool false])
 (cond (decide (x1 = 0))
 (lp k impl_FramesHold [] fu 4 n (qfh x0 (IntKind.wrap .i64 (x1 + 1)) z2 l3 z4 l5))
 (cond (decide (0 ≤ IntKind.wrap .i64 (x1 - 1)) && decide (IntKind.wrap .i64 (x1 - 1) < nI (List.length l3)))
 (cond (decide (0 ≤ IntKind.wrap .i64 (x1 - 1)) && decide (IntKind.wrap .i64 (x1 - 1) < nI (List.length l5)))
 (cond (decide (RC.num (rcAt (rrow l3 (Int.toNat x1)) 0) ≤ RC.num (rcAt (rrow l3 (Int.toNat (IntKind.wrap .i64 (x1 - 1)))) 0)))
 (some [.bool false])
 (cond (!decide (RC.num (rcAt (rrow l3 (Int.toNat x1)) 3) = IntKind.wrap .i64 (IntKind.wrap .i64 (RC.num (rcAt (rrow l3 (Int.toNat (IntKind.wrap .i64 (x1 - 1)))) 3) + Prod.fst (List.getD l5 (Int.toNat (IntKind.wrap .i64 (x1 - 1))) zz4)) - Prod.fst (Prod.snd (List.getD l5 (Int.toNat (IntKind.wrap .i64 (x1 - 1))) zz4)))))
 (some [.bool false])
 (cond (!decide (RC.num (rcAt (rrow l3 (Int.toNat x1)) 4) = IntKind.wrap .i64 (IntKind.wrap .i64 (RC.num (rcAt (rrow l3 (Int.toNat (IntKind.wrap .i64 (x1 - 1)))) 4) + Prod.fst (Prod.snd (Prod.snd (List.getD l5 (Int.toNat (IntKind.wrap .i64 (x1 - 1))) zz4)))) - Prod.snd (Prod.snd (Prod.snd (List.getD l5 (Int.toNat (IntKind.wrap .i64 (x1 - 1))) zz4))))))
 (some [.bool false])
 (lp k impl_FramesHold [] fu 4 n (qfh x0 (IntKind.wrap .i64 (x1 + 1)) z2 l3 z4 l5)))))
 none)
 none)))
 none)
 (some [.bool true]) := by kernel_rfl
def qft (x0 : Int) (z1 : Bool) (l2 : List (List RC)) (z3 : Bool) (l4 : L4) : St := ⟨fill 90 [(0, .sl 0 none), (1, .sl 1 none), (5, .int .i64 x0)], [], [.rows false z1 [.n, .n, .r3, .n, .n, .n, .is] l2, .arr false z3 (.r4 l4)]⟩
theorem qdh (k : Nat) (az : Bool) (a : List (List RC)) (bz : Bool) (b : L4) : go (k + 1) spec_FramesHold [.rows az [.n, .n, .r3, .n, .n, .n, .is] a, .arr false bz (.r4 b)] =
 cond (!decide (IntKind.wrap .i64 (nI (List.length b) + 1) = nI (List.length a)))
 (some [.bool false])
 (lp k spec_FramesHold [] [] 4 k (qft 0 az a bz b)) := by kernel_rfl
theorem qeb (k n : Nat) (fu : FU) (x0 : Int) (z1 : Bool) (l2 : List (List RC)) (z3 : Bool) (l4 : L4) : lp k spec_FramesHold [] fu 4 (n + 1) (qft x0 z1 l2 z3 l4) =
 cond (decide (x0 < nI (List.length l2)))
 (cond (decide (0 ≤ x0) && decide (x0 < nI (List.length l2)))
 ((go k spec_ReadFrame [.agg [.int .i64 (RC.num (rcAt (rrow l2 (Int.toNat x0)) 0)), .int .i64 (RC.num (rcAt (rrow l2 (Int.toNat x0)) 1)), .arr false (RC.nil (rcAt (rrow l2 (Int.toNat x0)) 2)) (.r3 (RC.r3s (rcAt (rrow l2 (Int.toNat x0)) 2))), .int .i64 (RC.num (rcAt (rrow l2 (Int.toNat x0)) 3)), .int .i64 (RC.num (rcAt (rrow l2 (Int.toNat x0)) 4)), .int .i64 (RC.num (rcAt (rrow l2 (Int.toNat x0)) 5)), .arr false (RC.nil (rcAt (rrow l2 (Int.toNat x0)) 6)) (.ints .i64 (RC.ints (rcAt (rrow l2 (Int.toNat x0)) 6)))]]).bind fun r0 =>
 cond (!bit (nth r0 1))
 (some [.bool false])
 (cond (decide (x0 = 0))
 (lp k spec_FramesHold [] fu 4 n (qft (IntKind.wrap .i64 (x0 + 1)) z1 l2 z3 l4))
 (cond (decide (0 ≤ IntKind.wrap .i64 (x0 - 1)) && decide (IntKind.wrap .i64 (x0 - 1) < nI (List.length l4)))
 (cond (decide (0 ≤ x0) && decide (x0 < nI (List.length l2)))
 (cond (decide (0 ≤ IntKind.wrap .i64 (x0 - 1)) && decide (IntKind.wrap .i64 (x0 - 1) < nI (List.length l2)))
 (cond (decide (RC.num (rcAt (rrow l2 (Int.toNat x0)) 0) ≤ RC.num (rcAt (rrow l2 (Int.toNat (IntKind.wrap .i64 (x0 - 1)))) 0)))
 (some [.bool false])
 (cond (decide (0 ≤ x0) && decide (x0 < nI (List.length l2)))
 (cond (decide (0 ≤ IntKind.wrap .i64 (x0 - 1)) && decide (IntKind.wrap .i64 (x0 - 1) < nI (List.length l2)))
 (cond (!decide (RC.num (rcAt (rrow l2 (Int.toNat x0)) 3) = IntKind.wrap .i64 (IntKind.wrap .i64 (RC.num (rcAt (rrow l2 (Int.toNat (IntKind.wrap .i64 (x0 - 1)))) 3) + Prod.fst (List.getD l4 (Int.toNat (IntKind.wrap .i64 (x0 - 1))) zz4)) - Prod.fst (Prod.snd (List.getD l4 (Int.toNat (IntKind.wrap .i64 (x0 - 1))) zz4)))))
 (some [.bool false])
 (cond (decide (0 ≤ x0) && decide (x0 < nI (List.length l2)))
 (cond (decide (0 ≤ IntKind.wrap .i64 (x0 - 1)) && decide (IntKind.wrap .i64 (x0 - 1) < nI (List.length l2)))
 (cond (!decide (RC.num (rcAt (rrow l2 (Int.toNat x0)) 4) = IntKind.wrap .i64 (IntKind.wrap .i64 (RC.num (rcAt (rrow l2 (Int.toNat (IntKind.wrap .i64 (x0 - 1)))) 4) + Prod.fst (Prod.snd (Prod.snd (List.getD l4 (Int.toNat (IntKind.wrap .i64 (x0 - 1))) zz4)))) - Prod.snd (Prod.snd (Prod.snd (List.getD l4 (Int.toNat (IntKind.wrap .i64 (x0 - 1))) zz4))))))
 (some [.bool false])
 (lp k spec_FramesHold [] fu 4 n (qft (IntKind.wrap .i64 (x0 + 1)) z1 l2 z3 l4)))
 none)
 none))
 none)
 none))
 none)
 none)
 none)))
 none)
 (some [.bool true]) := by kernel_rfl

end Go.Proofs.Ytcaapedadpnjoaa
end
section
namespace Go.Proofs.Ytcaapedadpnjoaa
open Go.Ev
abbrev qed (l : List Cell) (i : Nat) : Int := (l.getD i zz3).2.1
theorem qe1 : ∀ (l : List Cell) (r p : Int), qex r p l = true → ∀ i, 0 ≤ qed l i ∧ qed l i ≤ 4
  | [], r, p, h, i => by simp [qed]
  | x :: l, r, p, h, i => by
    simp only [qex, Bool.and_eq_true] at h
    cases i with
    | zero => have := lev0 (qdu h.1).2.2.1; simpa [qed] using this
    | succ i => have := qe1 l r _ h.2.2 i; simpa [qed] using this
def qgb (l : List Cell) : Nat → Nat → Int
  | 0, _ => -1
  | n + 1, i => if 1 < qed l i - qed l (i + 1) ∨ qed l i - qed l (i + 1) < -1 then (i : Int) else qgb l n (i + 1)
def unb (l : List Cell) : Int := qgb l (l.length - 1) 0
def isum : List Int → Int
  | [] => 0
  | x :: l => x + isum l
def qev : List Int → List Int → Bool
  | m :: ms, t :: ts => inR m 0 10000000 && (inR t 0 (1000 * m) && qev ms ts)
  | _, _ => true
theorem qew : ∀ (ms ts : List Int), ms.length = ts.length → qev ms ts = true → ∀ i, 0 ≤ ms.getD i 0 ∧ ms.getD i 0 ≤ 10000000 ∧ 0 ≤ ts.getD i 0 ∧ ts.getD i 0 ≤ 1000 * ms.getD i 0
  | [], ts, hl, h, i => by cases ts <;> simp_all
  | m :: ms, [], hl, h, i => by simp at hl
  | m :: ms, t :: ts, hl, h, i => by
    simp only [qev, Bool.and_eq_true, qdv] at h
    cases i with
    | zero => simp; omega
    | succ i => have := qew ms ts (by simpa using hl) h.2.2 i; simpa using this
def qaa : List Int → Bool
  | [] => true
  | b :: l => inR b 0 1000000 && qaa l
end Go.Proofs.Ytcaapedadpnjoaa
end
section
namespace Go.Proofs.Ytcaapedadpnjoaa
open Go.Ev
theorem qge {l : Int} (h : inR l 0 4 = true) : 1 ≤ qgd l ∧ qgd l ≤ 16 := by
  rcases lev h with rfl | rfl | rfl | rfl | rfl <;> decide
theorem qgc {x : Cell} (h : idOk x.1 x.2.1 x.2.2 = true) : qfw x.1 x.2.1 x.2.2 = x.1 * 16 + x.2.2 * qgd x.2.1 ∧ 0 ≤ x.2.2 * qgd x.2.1 ∧ 1 ≤ qgd x.2.1 := by
  have := qdu h
  exact ⟨by simp [qfw, h], (iw h).1, (qge this.2.2.1).1⟩
theorem qez : ∀ (l : List Cell) (r p : Int), qex r p l = true → 1 ≤ r ∧ r ≤ 8 ∧ p + l.length ≤ 16 * r ∧ (∀ i, i < l.length → 0 ≤ (l.getD i zz3).1 ∧ (l.getD i zz3).1 < r ∧ idOk (l.getD i zz3).1 (l.getD i zz3).2.1 (l.getD i zz3).2.2 = true) ∧ (l = [] → p = 16 * r)
  | [], r, p, h => by
    simp only [qex, Bool.and_eq_true, qdv, decide_eq_true_eq] at h
    simp; omega
  | x :: l, r, p, h => by
    simp only [qex, Bool.and_eq_true, decide_eq_true_eq] at h
    obtain ⟨h1, h2, h3⟩ := h
    have w := qgc h1
    have ih := qez l r _ h3
    have ds := qdu h1
    refine ⟨ih.1, ih.2.1, by simp only [List.length_cons]; omega, fun i hi => ?_, by simp⟩
    cases i with
    | zero => simp only [List.getD_cons_zero]; refine ⟨by omega, by omega, h1⟩
    | succ i => simp only [List.getD_cons_succ]; exact ih.2.2.2.1 i (by simpa using hi)
theorem qe0 {l : List Cell} {r : Int} (h : qex r 0 l = true) : 1 ≤ l.length ∧ l.length ≤ 128 := by
  have f := qez l r 0 h
  cases l with
  | nil => have := f.2.2.2.2 rfl; omega
  | cons x l => simp only [List.length_cons] at f ⊢; omega
structure StF (r : Int) (l : List Cell) (m t b : List Int) : Prop where
  mesh : qex r 0 l = true
  bal : unb l < 0
  ml : m.length = l.length
  tl : t.length = l.length
  bl : (b.length : Int) = r
  mt : qev m t = true
  bed : qaa b = true
  sum : isum m ≤ 10000000
section
variable {r : Int} {l : List Cell} {m t b : List Int}
theorem StF.len (F : StF r l m t b) : 1 ≤ l.length ∧ l.length ≤ 128 := qe0 F.mesh
theorem StF.lev (F : StF r l m t b) (i : Nat) : inR (l.getD i zz3).2.1 0 4 = true := by
  have := qe1 l r 0 F.mesh i
  simp only [qed] at this
  rw [qdv]; exact this
theorem StF.at (F : StF r l m t b) (i : Nat) : 0 ≤ m.getD i 0 ∧ m.getD i 0 ≤ 10000000 ∧ 0 ≤ t.getD i 0 ∧ t.getD i 0 ≤ 1000 * m.getD i 0 := qew m t (by rw [F.ml, F.tl]) F.mt i
end
end Go.Proofs.Ytcaapedadpnjoaa
end
section
namespace Go.Proofs.Ytcaapedadpnjoaa
open Go.Ev
theorem qct (k : Nat) (a : Int) : go (k + 1) impl_isQuantum [.int .i64 a] =
 (go k impl_within [.int .i64 a, .int .i64 1, .int .i64 1000000]).bind fun r0 =>
 some [.bool (bit (nth r0 0))] := by kernel_rfl
theorem qcs (k : Nat) (a : Int) : go (k + 1) impl_isMass [.int .i64 a] =
 (go k impl_within [.int .i64 a, .int .i64 0, .int .i64 10000000]).bind fun r0 =>
 some [.bool (bit (nth r0 0))] := by kernel_rfl

end Go.Proofs.Ytcaapedadpnjoaa
end
section
namespace Go.Proofs.Ytcaapedadpnjoaa
open Go.Ev
set_option maxRecDepth 20000
theorem qan (k : Nat) (hk : 2000000 ≤ k) (a : Int) : go (k + 2) impl_isQuantum [(.int .i64 (a))] = some [.bool (inR a 1 1000000)] := by
  rw [qct]
  simp (disch := omega) only [wk, bit, nI, qao]
theorem qam (k : Nat) (hk : 2000000 ≤ k) (a : Int) : go (k + 2) impl_isMass [(.int .i64 (a))] = some [.bool (inR a 0 10000000)] := by
  rw [qcs]
  simp (disch := omega) only [wk, bit, nI, qao]
end Go.Proofs.Ytcaapedadpnjoaa
end
section
namespace Go.Proofs.Ytcaapedadpnjoaa
open Go.Ev
set_option maxRecDepth 20000
def qcg (q s : Int) : Nat → Int → List Int → Option (Int × List Int)
  | 0, x, o => some (x, o)
  | n + 1, x, o => cond (inR (x + s) 0 10000000) (qcg q s n (x + s) (o ++ [q * (x + s)])) none
def decF (q : Int) (l : List Int) : Nat → Nat → Int → List Int → Option (List Int)
  | 0, i, x, o => some o
  | m + 1, i, x, o => cond (inR (l.getD i 0) 1 (1000 - (o.length : Int)) && (!(decide (0 < i) && decide (l.getD (i + 1) 0 = l.getD (i - 1) 0)) && inR (l.getD (i + 1) 0) (-10000000) 10000000))
      ((qcg q (l.getD (i + 1) 0) (l.getD i 0).toNat x o).bind fun p => decF q l m (i + 2) p.1 p.2) none
def qce (q : Int) (l : List Int) : Option (List Int) := cond (inR q 1 1000000 && (decide (l.length % 2 = 0) && decide (l.length ≤ 2000))) (decF q l (l.length / 2) 0 0 []) none
def decD (z : Bool) : Option (List Int) → List D
  | some o => [.arr true false (.ints .i64 o), .bool true]
  | none => [.arr true z (.ints .i64 []), .bool false]
theorem qch {q s : Int} : ∀ {n : Nat} {x : Int} {o : List Int} {p : Int × List Int}, qcg q s n x o = some p → 0 ≤ x ∧ x ≤ 10000000 → p.2.length = o.length + n ∧ 0 ≤ p.1 ∧ p.1 ≤ 10000000
  | 0, x, o, p, h, hx => by
    have h := Option.some.inj (show some _ = some p from h)
    subst h; exact ⟨rfl, hx⟩
  | n + 1, x, o, p, h, hx => by
    rw [qcg] at h
    cases g : inR (x + s) 0 10000000
    · rw [g] at h; cases h
    · rw [g, qca] at h
      have := qch h (qdv.1 g)
      rw [List.length_append, List.length_cons, List.length_nil] at this
      omega
set_option maxHeartbeats 2000000 in
theorem qeg (k : Nat) (hk : 2000000 ≤ k) (fu : List (Nat × Nat)) (q : Int) (hq : 1 ≤ q ∧ q ≤ 1000000) (s : Int) (hs : -10000000 ≤ s ∧ s ≤ 10000000) (j : Nat) (hj : j ≤ 2000) (z : Bool) (l : List Int) (n : Int) (hn : n ≤ 100000) : ∀ (m N : Nat) (i x : Int) (o : List Int), i + m = n → 0 ≤ i → 0 ≤ x ∧ x ≤ 10000000 → o.length + m ≤ 100000 → m < N →
    lp (k + 2) impl_DecompressList [] fu 12 (N) (qff q x (j : Int) s n i z l false o) = (qcg q s m x o).elim (some (decD true none)) (fun p => lp (k + 2) impl_DecompressList [] fu 6 (fuelOf fu 6) (qfg q p.1 ((j + 2 : Nat) : Int) z l false p.2))
  | 0, N + 1, i, x, o, hi, h0, hx, ho, hN => by
    rw [qdx]
    show _ = lp (k + 2) impl_DecompressList [] fu 6 (fuelOf fu 6) (qfg q x ((j + 2 : Nat) : Int) z l false o)
    simp (disch := omega) only [wk, bit, nI]
  | m + 1, N + 1, i, x, o, hi, h0, hx, ho, hN => by
    rw [qdx, qcg]
    have bl : bigLen = 1099511627776 := rfl
    cases g : inR (x + s) 0 10000000
    · simp (disch := omega) only [wk, bit, nI, qam, g]
      rfl
    · have b := qdv.1 g
      have p0 : 0 ≤ q * (x + s) := Int.mul_nonneg (by omega) b.1
      have p1 : q * (x + s) ≤ 1000000 * 10000000 := Int.mul_le_mul hq.2 b.2 b.1 (by omega)
      have la : (o ++ [q * (x + s)]).length = o.length + 1 := by rw [List.length_append]; rfl
      have IH := qeg k hk fu q hq s hs j hj z l n hn m N (i + 1) (x + s) (o ++ [q * (x + s)]) (by omega) (by omega) b (by omega) (by omega)
      simp (disch := omega) only [wk, bit, nI, qam, g, la, bl]
      exact IH
set_option maxHeartbeats 4000000 in
theorem qeh (k : Nat) (hk : 2000000 ≤ k) (q : Int) (hq : 1 ≤ q ∧ q ≤ 1000000) (z : Bool) (l : List Int) (hl : l.length ≤ 2000) : ∀ (m N i : Nat) (fu : List (Nat × Nat)) (x : Int) (o : List Int), i + 2 * m = l.length → 0 ≤ x ∧ x ≤ 10000000 → o.length ≤ 1000 → m < N →
    lp (k + 2) impl_DecompressList [] fu 6 (N) (qfg q x (i : Int) z l false o) = some (decD true (decF q l m i x o))
  | 0, N + 1, i, fu, x, o, hi, hx, ho, hN => by
    rw [qdy]
    simp (disch := omega) only [wk, bit, nI]
    rfl
  | m + 1, N + 1, i, fu, x, o, hi, hx, ho, hN => by
    rw [qdy, decF]
    cases g1 : inR (l.getD i 0) 1 (1000 - (o.length : Int))
    · simp (disch := omega) only [wk, bit, nI, qao, g1]
      rfl
    have b1 := qdv.1 g1
    cases g2 : inR (l.getD (i + 1) 0) (-10000000) 10000000
    · rw [Bool.and_false, Bool.and_false, qb9]
      by_cases h0 : i = 0
      · subst h0
        rw [show ((0 : Nat) : Int) = 0 from rfl]
        have t0 : Int.toNat 0 = 0 := rfl
        have t1 : Int.toNat (0 + 1) = 1 := rfl
        rw [Nat.zero_add] at g2
        simp (disch := omega) only [wk, bit, nI, qao, g1, g2, t0, t1, Int.zero_add, show Int.toNat 1 = 1 from rfl]
        rfl
      · have cm : (i : Int) - 1 = ((i - 1 : Nat) : Int) := by omega
        by_cases h : l.getD (i + 1) 0 = l.getD (i - 1) 0
        · simp (disch := omega) only [wk, bit, nI, qao, g1, cm]
          rfl
        · simp (disch := omega) only [wk, bit, nI, qao, g1, g2, cm]
          rfl
    have b2 := qdv.1 g2
    have e12 := qeg k hk ((6, N) :: fu) q hq (l.getD (i + 1) 0) b2 i (by omega) z l (l.getD i 0) (by omega) (l.getD i 0).toNat (k + 2) 0 x o (by omega) (by omega) hx (by omega) (by omega)
    rw [qdt] at e12
    have E : lp (k + 2) impl_DecompressList [] ((6, N) :: fu) 12 (k + 2) (qff q x (i : Int) (l.getD (i + 1) 0) (l.getD i 0) 0 z l false o) = some (decD true ((qcg q (l.getD (i + 1) 0) (l.getD i 0).toNat x o).bind fun p => decF q l m (i + 2) p.1 p.2)) := by
      refine e12.trans ?_
      cases g : qcg q (l.getD (i + 1) 0) (l.getD i 0).toNat x o with
      | none => rfl
      | some p =>
        have d := qch g hx
        exact qeh k hk q hq z l hl m N (i + 2) fu p.1 p.2 (by omega) d.2 (by omega) (by omega)
    by_cases h0 : i = 0
    · subst h0
      rw [show decide (0 < 0) = false from rfl, Bool.false_and]
      rw [show ((0 : Nat) : Int) = 0 from rfl] at E ⊢
      have t0 : Int.toNat 0 = 0 := rfl
      rw [Nat.zero_add] at E g2
      simp (disch := omega) only [wk, bit, nI, qao, g1, g2, t0, Int.zero_add, show Int.toNat 1 = 1 from rfl]
      exact E
    · have cm : (i : Int) - 1 = ((i - 1 : Nat) : Int) := by omega
      rw [dT (by omega : 0 < i), Bool.true_and]
      by_cases h : l.getD (i + 1) 0 = l.getD (i - 1) 0
      · simp (disch := omega) only [wk, bit, nI, qao, g1, cm]
        rfl
      · simp (disch := omega) only [wk, bit, nI, qao, g1, g2, cm]
        exact E
theorem qad (k : Nat) (hk : 2000000 ≤ k) (q : Int) (z : Bool) (l : List Int) (hl : (l.length : Int) ≤ 1048576) : go (k + 3) impl_DecompressList [.arr false z (.ints .i64 l), .int .i64 q] = some (decD true (qce q l)) := by
  rw [qcj]
  unfold qce
  cases g : inR q 1 1000000
  · simp (disch := omega) only [wk, bit, nI, qan, g]
    rfl
  have te : Int.tmod (l.length : Int) 2 = ((l.length % 2 : Nat) : Int) := by rw [Int.tmod_eq_emod_of_nonneg (by omega)]; omega
  by_cases h2 : l.length % 2 = 0
  case neg =>
    simp (disch := omega) only [wk, bit, nI, qan, g, te]
    rfl
  by_cases h3 : l.length ≤ 2000
  case neg =>
    simp (disch := omega) only [wk, bit, nI, qan, g, te]
    rfl
  have e := qeh k hk q (qdv.1 g) z l h3 (l.length / 2) (k + 2) 0 [] 0 [] (by omega) (by omega) (by simp) (by omega)
  rw [show ((0 : Nat) : Int) = 0 from rfl] at e
  simp (disch := omega) only [wk, bit, nI, qan, g, te]
  exact e
end Go.Proofs.Ytcaapedadpnjoaa
end
section
namespace Go.Proofs.Ytcaapedadpnjoaa
open Go.Ev
set_option maxRecDepth 20000
set_option maxHeartbeats 2000000 in
theorem qeq (k : Nat) (hk : 2000000 ≤ k) (fu : List (Nat × Nat)) (q : Int) (hq : 1 ≤ q ∧ q ≤ 1000000) (z : Bool) (l : List Int) (hl : l.length ≤ 2000) (j : Nat) (hj : j + 1 < l.length) (g2 : inR (l.getD (j + 1) 0) (-10000000) 10000000 = true) (hn : l.getD j 0 ≤ 100000) : ∀ (m N : Nat) (i x : Int) (o : List Int), i + m = l.getD j 0 → 0 ≤ i → 0 ≤ x ∧ x ≤ 10000000 → o.length + m ≤ 100000 → m < N →
    lp (k + 1) spec_DecompressList [] fu 12 (N) (qfr q x (j : Int) i z l false [] false o) = (qcg q (l.getD (j + 1) 0) m x o).elim (some (decD false none)) (fun p => lp (k + 1) spec_DecompressList [] fu 7 (fuelOf fu 7) (qfs q p.1 ((j + 2 : Nat) : Int) z l false [] false p.2))
  | 0, N + 1, i, x, o, hi, h0, hx, ho, hN => by
    rw [qd9]
    show _ = lp (k + 1) spec_DecompressList [] fu 7 (fuelOf fu 7) (qfs q x ((j + 2 : Nat) : Int) z l false [] false o)
    simp (disch := omega) only [wk, bit, nI]
  | m + 1, N + 1, i, x, o, hi, h0, hx, ho, hN => by
    rw [qd9, qcg]
    have bl : bigLen = 1099511627776 := rfl
    have b2 := qdv.1 g2
    cases g : inR (x + l.getD (j + 1) 0) 0 10000000
    · simp (disch := omega) only [wk, bit, nI, qbh, g, g2]
      rfl
    · have b := qdv.1 g
      have p0 : 0 ≤ (x + l.getD (j + 1) 0) * q := Int.mul_nonneg b.1 (by omega)
      have p1 : (x + l.getD (j + 1) 0) * q ≤ 10000000 * 1000000 := Int.mul_le_mul b.2 hq.2 (by omega) (by omega)
      have la : (o ++ [(x + l.getD (j + 1) 0) * q]).length = o.length + 1 := by rw [List.length_append]; rfl
      have IH := qeq k hk fu q hq z l hl j hj g2 hn m N (i + 1) (x + l.getD (j + 1) 0) (o ++ [(x + l.getD (j + 1) 0) * q]) (by omega) (by omega) b (by omega) (by omega)
      rw [Int.mul_comm q]
      simp (disch := omega) only [wk, bit, nI, qbh, g, g2, la, bl]
      exact IH
set_option maxHeartbeats 4000000 in
theorem qer (k : Nat) (hk : 2000000 ≤ k) (q : Int) (hq : 1 ≤ q ∧ q ≤ 1000000) (z : Bool) (l : List Int) (hl : l.length ≤ 2000) : ∀ (m N i : Nat) (fu : List (Nat × Nat)) (x : Int) (o : List Int), i + 2 * m = l.length → 0 ≤ x ∧ x ≤ 10000000 → o.length ≤ 1000 → m < N →
    lp (k + 1) spec_DecompressList [] fu 7 (N) (qfs q x (i : Int) z l false [] false o) = some (decD false (decF q l m i x o))
  | 0, N + 1, i, fu, x, o, hi, hx, ho, hN => by
    rw [qea]
    simp (disch := omega) only [wk, bit, nI]
    rfl
  | m + 1, N + 1, i, fu, x, o, hi, hx, ho, hN => by
    rw [qea, decF]
    cases g1 : inR (l.getD i 0) 1 (1000 - (o.length : Int))
    · simp (disch := omega) only [wk, bit, nI, qbh, g1]
      rfl
    have b1 := qdv.1 g1
    have E : lp (k + 1) spec_DecompressList [] ((7, N) :: fu) 12 (k + 1) (qfr q x (i : Int) 0 z l false [] false o) = some (decD false (cond (inR (l.getD (i + 1) 0) (-10000000) 10000000) ((qcg q (l.getD (i + 1) 0) (l.getD i 0).toNat x o).bind fun p => decF q l m (i + 2) p.1 p.2) none)) := by
      cases g2 : inR (l.getD (i + 1) 0) (-10000000) 10000000
      · have e := qd9 (k + 1) (k + 1 - 1) ((7, N) :: fu) q x (i : Int) 0 z l false [] false o
        rw [show k + 1 - 1 + 1 = k + 1 by omega] at e
        rw [e]
        simp (disch := omega) only [wk, bit, nI, qbh, g2]
        rfl
      · have e12 := qeq k hk ((7, N) :: fu) q hq z l hl i (by omega) g2 (by omega) (l.getD i 0).toNat (k + 1) 0 x o (by omega) (by omega) hx (by omega) (by omega)
        rw [qdt] at e12
        refine e12.trans ?_
        cases g : qcg q (l.getD (i + 1) 0) (l.getD i 0).toNat x o with
        | none => rfl
        | some p =>
          have d := qch g hx
          exact qer k hk q hq z l hl m N (i + 2) fu p.1 p.2 (by omega) d.2 (by omega) (by omega)
    by_cases h0 : i = 0
    · subst h0
      rw [show decide (0 < 0) = false from rfl, Bool.false_and]
      rw [show ((0 : Nat) : Int) = 0 from rfl] at E ⊢
      have t0 : Int.toNat 0 = 0 := rfl
      simp (disch := omega) only [wk, bit, nI, qbh, g1, t0]
      exact E
    · have cm : (i : Int) - 1 = ((i - 1 : Nat) : Int) := by omega
      rw [dT (by omega : 0 < i), Bool.true_and]
      by_cases h : l.getD (i + 1) 0 = l.getD (i - 1) 0
      · simp (disch := omega) only [wk, bit, nI, qbh, g1, cm]
        rfl
      · simp (disch := omega) only [wk, bit, nI, qbh, g1, cm]
        exact E
theorem qba (k : Nat) (hk : 2000000 ≤ k) (q : Int) (z : Bool) (l : List Int) (hl : (l.length : Int) ≤ 1048576) : go (k + 2) spec_DecompressList [.arr false z (.ints .i64 l), .int .i64 q] = some (decD false (qce q l)) := by
  rw [qdg]
  unfold qce
  cases g : inR q 1 1000000
  · simp (disch := omega) only [wk, bit, nI, qbh, g]
    rfl
  have te : Int.tmod (l.length : Int) 2 = ((l.length % 2 : Nat) : Int) := by rw [Int.tmod_eq_emod_of_nonneg (by omega)]; omega
  by_cases h2 : l.length % 2 = 0
  case neg =>
    simp (disch := omega) only [wk, bit, nI, qbh, g, te]
    rfl
  by_cases h3 : l.length ≤ 2000
  case neg =>
    simp (disch := omega) only [wk, bit, nI, qbh, g, te]
    rfl
  have e := qer k hk q (qdv.1 g) z l h3 (l.length / 2) (k + 1) 0 [] 0 [] (by omega) (by omega) (by simp) (by omega)
  rw [show ((0 : Nat) : Int) = 0 from rfl] at e
  simp (disch := omega) only [wk, bit, nI, qbh, g, te]
  exact e
end Go.Proofs.Ytcaapedadpnjoaa
end
section
namespace Go.Proofs.Ytcaapedadpnjoaa
open Go Go.RowKit Go.Ev
set_option maxRecDepth 20000
def rdOk (r : Int) (l : List Cell) (q : Int) (c : List Int) : Bool := match qce q c with
  | some o => qex r 0 l && decide (o.length = l.length)
  | none => false
theorem qcd {q : Int} {l : List Int} : ∀ {m i : Nat} {x : Int} {o o' : List Int}, decF q l m i x o = some o' → o.length ≤ 1000 → o'.length ≤ 1000
  | 0, i, x, o, o', h, ho => by
    have h := Option.some.inj (show some _ = some o' from h)
    subst h; exact ho
  | m + 1, i, x, o, o', h, ho => by
    rw [decF] at h
    cases g : inR (l.getD i 0) 1 (1000 - (o.length : Int))
    · rw [g, Bool.false_and] at h; cases h
    have b := qdv.1 g
    cases g2 : (inR (l.getD i 0) 1 (1000 - (o.length : Int)) && (!(decide (0 < i) && decide (l.getD (i + 1) 0 = l.getD (i - 1) 0)) && inR (l.getD (i + 1) 0) (-10000000) 10000000))
    · rw [g2] at h; cases h
    rw [g2, qca] at h
    cases g3 : qcg q (l.getD (i + 1) 0) (l.getD i 0).toNat x o with
    | none => rw [g3] at h; cases h
    | some p =>
      rw [g3] at h
      have h : decF q l m (i + 2) p.1 p.2 = some o' := h
      refine qcd h ?_
      have : ∀ {n : Nat} {x : Int} {o : List Int} {p : Int × List Int}, qcg q (l.getD (i + 1) 0) n x o = some p → p.2.length = o.length + n := by
        intro n
        induction n with
        | zero =>
          intro x o p h
          have h := Option.some.inj (show some _ = some p from h)
          subst h; rfl
        | succ n ih =>
          intro x o p h
          rw [qcg] at h
          cases g : inR (x + l.getD (i + 1) 0) 0 10000000
          · rw [g] at h; cases h
          · rw [g, qca] at h
            rw [ih h, List.length_append]; simp; omega
      rw [this g3]; omega
theorem qcf {q : Int} {l o : List Int} (h : qce q l = some o) : o.length ≤ 1000 := by
  unfold qce at h
  cases g : (inR q 1 1000000 && (decide (l.length % 2 = 0) && decide (l.length ≤ 2000)))
  · rw [g] at h; cases h
  · rw [g, qca] at h
    exact qcd h (by simp)
theorem qah (k : Nat) (hk : 2000000 ≤ k) (s r M T q : Int) (z z' : Bool) (l : List Cell) (c : List Int) (hl : (l.length : Int) ≤ 1048576) (hc : (c.length : Int) ≤ 1048576) :
    ∃ zz L, go (k + 7) impl_ReadFrame [.agg [.int .i64 s, .int .i64 r, .arr false z (.r3 l), .int .i64 M, .int .i64 T, .int .i64 q, .arr false z' (.ints .i64 c)]] = some [.arr true zz (.ints .i64 L), .bool (rdOk r l q c)] := by
  rw [qcn]
  have e := qad (k + 3) (by omega) q z' c hc
  unfold rdOk
  cases g : qce q c with
  | none =>
    rw [g] at e
    simp only [decD] at e
    exact ⟨true, [], by simp (disch := omega) only [wk, bit, nI, e]⟩
  | some o =>
    rw [g] at e
    simp only [decD] at e
    have ol := qcf g
    cases h : qex r 0 l
    · exact ⟨true, [], by simp (disch := omega) only [wk, bit, nI, e, qag, h]⟩
    · by_cases h2 : o.length = l.length
      · exact ⟨false, o, by simp (disch := omega) only [wk, bit, nI, e, qag, h]⟩
      · exact ⟨true, [], by simp (disch := omega) only [wk, bit, nI, e, qag, h]⟩
theorem qbe (k : Nat) (hk : 2000000 ≤ k) (s r M T q : Int) (z z' : Bool) (l : List Cell) (c : List Int) (hl : (l.length : Int) ≤ 1048576) (hc : (c.length : Int) ≤ 1048576) :
    ∃ zz L, go (k + 6) spec_ReadFrame [.agg [.int .i64 s, .int .i64 r, .arr false z (.r3 l), .int .i64 M, .int .i64 T, .int .i64 q, .arr false z' (.ints .i64 c)]] = some [.arr true zz (.ints .i64 L), .bool (rdOk r l q c)] := by
  rw [qdk]
  have e := qba (k + 3) (by omega) q z' c hc
  unfold rdOk
  cases g : qce q c with
  | none =>
    rw [g] at e
    simp only [decD] at e
    exact ⟨false, [], by simp (disch := omega) only [wk, bit, nI, e]⟩
  | some o =>
    rw [g] at e
    simp only [decD] at e
    have ol := qcf g
    cases h : qex r 0 l
    · exact ⟨false, [], by simp (disch := omega) only [wk, bit, nI, e, qbd, h]⟩
    · by_cases h2 : o.length = l.length
      · exact ⟨false, o, by simp (disch := omega) only [wk, bit, nI, e, qbd, h]⟩
      · exact ⟨false, [], by simp (disch := omega) only [wk, bit, nI, e, qbd, h]⟩
def frOk (r : List RC) : Bool := rdOk (rcAt r 1).num (rcAt r 2).r3s (rcAt r 5).num (rcAt r 6).ints
def qfz (p r : List RC) (g : Int × Int × Int × Int) : Bool := (!decide ((rcAt r 0).num ≤ (rcAt p 0).num)) && (decide ((rcAt r 3).num = IntKind.wrap .i64 (IntKind.wrap .i64 ((rcAt p 3).num + g.1) - g.2.1)) && decide ((rcAt r 4).num = IntKind.wrap .i64 (IntKind.wrap .i64 ((rcAt p 4).num + g.2.2.1) - g.2.2.2)))
def fhF (l : List (List RC)) (b : List (Int × Int × Int × Int)) : Nat → Nat → Bool
  | 0, i => true
  | m + 1, i => frOk (rrow l i) && ((decide (i = 0) || qfz (rrow l (i - 1)) (rrow l i) (b.getD (i - 1) zz4)) && fhF l b m (i + 1))
def qdq (l : List (List RC)) (b : List (Int × Int × Int × Int)) : Bool := decide (b.length + 1 = l.length) && fhF l b l.length 0
theorem qe4 {r : List RC} (h : okFr r = true) : ((rcAt r 2).r3s.length : Int) ≤ 1048576 ∧ ((rcAt r 6).ints.length : Int) ≤ 1048576 := by
  unfold okFr at h
  split at h
  · simp only [Bool.and_eq_true, decide_eq_true_eq] at h
    exact h
  · cases h
set_option maxHeartbeats 4000000 in
theorem qei (k : Nat) (hk : 2000000 ≤ k) (fu : List (Nat × Nat)) (z z' : Bool) (l : List (List RC)) (b : List (Int × Int × Int × Int)) (hl : (l.length : Int) ≤ 1048576) (hb : b.length + 1 = l.length) (hok : ∀ i, i < l.length → okFr (rrow l i) = true) : ∀ (m N i : Nat), i + m = l.length → m < N →
    lp (k + 7) impl_FramesHold [] fu 4 (N) (qfh (l.length : Int) (i : Int) z l z' b) = some [.bool (fhF l b m i)]
  | 0, N + 1, i, hi, hN => by
    rw [qdz]
    simp (disch := omega) only [wk, bit, nI]
    rfl
  | m + 1, N + 1, i, hi, hN => by
    rw [qdz, fhF]
    have ol := qe4 (hok i (by omega))
    have IH := qei k hk fu z z' l b hl hb hok m N (i + 1) (by omega) (by omega)
    obtain ⟨zz, L, e⟩ := qah k (by omega) (rcAt (rrow l i) 0).num (rcAt (rrow l i) 1).num (rcAt (rrow l i) 3).num (rcAt (rrow l i) 4).num (rcAt (rrow l i) 5).num (rcAt (rrow l i) 2).nil (rcAt (rrow l i) 6).nil (rcAt (rrow l i) 2).r3s (rcAt (rrow l i) 6).ints ol.1 ol.2
    cases g : frOk (rrow l i)
    · rw [show rdOk _ _ _ _ = false from g] at e
      simp (disch := omega) only [wk, bit, nI, e]
    rw [show rdOk _ _ _ _ = true from g] at e
    by_cases h0 : i = 0
    · rw [dT h0, Bool.true_or]
      simp (disch := omega) only [wk, bit, nI, e]
      exact IH
    rw [dF h0, Bool.false_or]
    have cm : (i : Int) - 1 = ((i - 1 : Nat) : Int) := by omega
    unfold qfz
    by_cases h1 : (rcAt (rrow l i) 0).num ≤ (rcAt (rrow l (i - 1)) 0).num
    · simp (disch := omega) only [wk, bit, nI, e, cm]
    by_cases h2 : (rcAt (rrow l i) 3).num = IntKind.wrap .i64 (IntKind.wrap .i64 ((rcAt (rrow l (i - 1)) 3).num + (b.getD (i - 1) zz4).1) - (b.getD (i - 1) zz4).2.1)
    case neg => simp (disch := omega) only [wk, bit, nI, e, cm]
    by_cases h3 : (rcAt (rrow l i) 4).num = IntKind.wrap .i64 (IntKind.wrap .i64 ((rcAt (rrow l (i - 1)) 4).num + (b.getD (i - 1) zz4).2.2.1) - (b.getD (i - 1) zz4).2.2.2)
    case neg => simp (disch := omega) only [wk, bit, nI, e, cm]
    simp (disch := omega) only [wk, bit, nI, e, cm]
    exact IH
end Go.Proofs.Ytcaapedadpnjoaa
end
section
namespace Go.Proofs.Ytcaapedadpnjoaa
open Go Go.RowKit Go.Ev
set_option maxRecDepth 20000
set_option maxHeartbeats 4000000 in
theorem qes (k : Nat) (hk : 2000000 ≤ k) (fu : List (Nat × Nat)) (z z' : Bool) (l : List (List RC)) (b : List (Int × Int × Int × Int)) (hl : (l.length : Int) ≤ 1048576) (hb : b.length + 1 = l.length) (hok : ∀ i, i < l.length → okFr (rrow l i) = true) : ∀ (m N i : Nat), i + m = l.length → m < N →
    lp (k + 6) spec_FramesHold [] fu 4 (N) (qft (i : Int) z l z' b) = some [.bool (fhF l b m i)]
  | 0, N + 1, i, hi, hN => by
    rw [qeb]
    simp (disch := omega) only [wk, bit, nI]
    rfl
  | m + 1, N + 1, i, hi, hN => by
    rw [qeb, fhF]
    have ol := qe4 (hok i (by omega))
    have IH := qes k hk fu z z' l b hl hb hok m N (i + 1) (by omega) (by omega)
    obtain ⟨zz, L, e⟩ := qbe k (by omega) (rcAt (rrow l i) 0).num (rcAt (rrow l i) 1).num (rcAt (rrow l i) 3).num (rcAt (rrow l i) 4).num (rcAt (rrow l i) 5).num (rcAt (rrow l i) 2).nil (rcAt (rrow l i) 6).nil (rcAt (rrow l i) 2).r3s (rcAt (rrow l i) 6).ints ol.1 ol.2
    cases g : frOk (rrow l i)
    · rw [show rdOk _ _ _ _ = false from g] at e
      simp (disch := omega) only [wk, bit, nI, e]
    rw [show rdOk _ _ _ _ = true from g] at e
    by_cases h0 : i = 0
    · rw [dT h0, Bool.true_or]
      simp (disch := omega) only [wk, bit, nI, e]
      exact IH
    rw [dF h0, Bool.false_or]
    have cm : (i : Int) - 1 = ((i - 1 : Nat) : Int) := by omega
    unfold qfz
    by_cases h1 : (rcAt (rrow l i) 0).num ≤ (rcAt (rrow l (i - 1)) 0).num
    · simp (disch := omega) only [wk, bit, nI, e, cm]
    by_cases h2 : (rcAt (rrow l i) 3).num = IntKind.wrap .i64 (IntKind.wrap .i64 ((rcAt (rrow l (i - 1)) 3).num + (b.getD (i - 1) zz4).1) - (b.getD (i - 1) zz4).2.1)
    case neg => simp (disch := omega) only [wk, bit, nI, e, cm]
    by_cases h3 : (rcAt (rrow l i) 4).num = IntKind.wrap .i64 (IntKind.wrap .i64 ((rcAt (rrow l (i - 1)) 4).num + (b.getD (i - 1) zz4).2.2.1) - (b.getD (i - 1) zz4).2.2.2)
    case neg => simp (disch := omega) only [wk, bit, nI, e, cm]
    simp (disch := omega) only [wk, bit, nI, e, cm]
    exact IH
theorem qae (k : Nat) (hk : 2000000 ≤ k) (z z' : Bool) (l : List (List RC)) (b : List (Int × Int × Int × Int)) (hl : (l.length : Int) ≤ 1048576) (hb : (b.length : Int) ≤ 1048576) (hok : ∀ i, i < l.length → okFr (rrow l i) = true) :
    go (k + 8) impl_FramesHold [.rows z zFr l, .arr false z' (.r4 b)] = some [.bool (qdq l b)] := by
  rw [qck]
  unfold qdq
  by_cases h : b.length + 1 = l.length
  · have e := qei k hk [] z z' l b hl h hok l.length (k + 7) 0 (by omega) (by omega)
    rw [show ((0 : Nat) : Int) = 0 from rfl] at e
    simp (disch := omega) only [wk, bit, nI]
    exact e
  · simp (disch := omega) only [wk, bit, nI]
theorem qbb (k : Nat) (hk : 2000000 ≤ k) (z z' : Bool) (l : List (List RC)) (b : List (Int × Int × Int × Int)) (hl : (l.length : Int) ≤ 1048576) (hb : (b.length : Int) ≤ 1048576) (hok : ∀ i, i < l.length → okFr (rrow l i) = true) :
    go (k + 7) spec_FramesHold [.rows z zFr l, .arr false z' (.r4 b)] = some [.bool (qdq l b)] := by
  rw [qdh]
  unfold qdq
  by_cases h : b.length + 1 = l.length
  · have e := qes k hk [] z z' l b hl h hok l.length (k + 6) 0 (by omega) (by omega)
    rw [show ((0 : Nat) : Int) = 0 from rfl] at e
    simp (disch := omega) only [wk, bit, nI]
    exact e
  · simp (disch := omega) only [wk, bit, nI]
end Go.Proofs.Ytcaapedadpnjoaa
end
section
namespace Go.Proofs.Ytcaapedadpnjoaa
open Go.Ev
set_option maxRecDepth 20000
def qfn (x0 x1 : Int) (z2 : Bool) (l3 : List (List RC)) : St := ⟨fill 27 [(0, .sl 0 none), (1, .int .i64 x0), (5, .int .i64 x1)], [], [.rows false z2 [.n, .n, .r3, .n, .n, .n, .is] l3]⟩
theorem qc4 (k : Nat) (az : Bool) (a : List (List RC)) (b : Int) : go (k + 1) laws_szFrameS [.rows az [.n, .n, .r3, .n, .n, .n, .is] a, .int .i64 b] =
 cond (decide (IntKind.wrap .i64 (b - nI (List.length a)) < 0))
 (some [.int .i64 ((-1 : Int))])
 (lp k laws_szFrameS [] [] 5 k (qfn (IntKind.wrap .i64 (b - nI (List.length a))) 0 az a)) := by kernel_rfl
theorem qd5 (k n : Nat) (fu : FU) (x0 x1 : Int) (z2 : Bool) (l3 : List (List RC)) : lp k laws_szFrameS [] fu 5 (n + 1) (qfn x0 x1 z2 l3) =
 cond (decide (x1 < nI (List.length l3)))
 (cond (decide (0 ≤ x1) && decide (x1 < nI (List.length l3)))
 ((go k laws_szFrame [.agg [.int .i64 (RC.num (rcAt (rrow l3 (Int.toNat x1)) 0)), .int .i64 (RC.num (rcAt (rrow l3 (Int.toNat x1)) 1)), .arr false (RC.nil (rcAt (rrow l3 (Int.toNat x1)) 2)) (.r3 (RC.r3s (rcAt (rrow l3 (Int.toNat x1)) 2))), .int .i64 (RC.num (rcAt (rrow l3 (Int.toNat x1)) 3)), .int .i64 (RC.num (rcAt (rrow l3 (Int.toNat x1)) 4)), .int .i64 (RC.num (rcAt (rrow l3 (Int.toNat x1)) 5)), .arr false (RC.nil (rcAt (rrow l3 (Int.toNat x1)) 6)) (.ints .i64 (RC.ints (rcAt (rrow l3 (Int.toNat x1)) 6)))], .int .i64 x0]).bind fun r0 =>
 cond (decide (D.toInt (nth r0 0) < 0))
 (some [.int .i64 ((-1 : Int))])
 (lp k laws_szFrameS [] fu 5 n (qfn (D.toInt (nth r0 0)) (IntKind.wrap .i64 (x1 + 1)) z2 l3)))
 none)
 (some [.int .i64 x0]) := by kernel_rfl
theorem qc3 (k : Nat) (a0 a1 : Int) (a2z : Bool) (a2 : L3) (a3 a4 a5 : Int) (a6z : Bool) (a6 : LI) (b : Int) : go (k + 1) laws_szFrame [.agg [.int .i64 a0, .int .i64 a1, .arr false a2z (.r3 a2), .int .i64 a3, .int .i64 a4, .int .i64 a5, .arr false a6z (.ints .i64 a6)], .int .i64 b] =
 (go k laws_szMesh [.agg [.int .i64 a1, .arr false a2z (.r3 a2)], .int .i64 b]).bind fun r0 =>
 cond (decide (D.toInt (nth r0 0) < 0))
 (some [.int .i64 ((-1 : Int))])
 ((go k laws_szIntS [.arr false a6z (.ints .i64 a6), .int .i64 (D.toInt (nth r0 0))]).bind fun r1 =>
 cond (decide (D.toInt (nth r1 0) < 0))
 (some [.int .i64 ((-1 : Int))])
 (some [.int .i64 (D.toInt (nth r1 0))])) := by kernel_rfl
def qfj (x0 : Int) (z1 : Bool) (l2 : List (List RC)) (z3 : Bool) (l4 : List (List RC)) : St := ⟨fill 27 [(0, .sl 0 none), (1, .sl 1 none), (5, .int .i64 x0)], [], [.rows false z1 [.n, .n, .r3, .n, .n, .n, .is] l2, .rows false z3 [.n, .n, .r3, .n, .n, .n, .is] l4]⟩
theorem qcw (k : Nat) (az : Bool) (a : List (List RC)) (bz : Bool) (b : List (List RC)) : go (k + 1) laws_eqFrameS [.rows az [.n, .n, .r3, .n, .n, .n, .is] a, .rows bz [.n, .n, .r3, .n, .n, .n, .is] b] =
 cond (!decide (nI (List.length a) = nI (List.length b)))
 (some [.bool false])
 (lp k laws_eqFrameS [] [] 4 k (qfj 0 az a bz b)) := by kernel_rfl
theorem qd1 (k n : Nat) (fu : FU) (x0 : Int) (z1 : Bool) (l2 : List (List RC)) (z3 : Bool) (l4 : List (List RC)) : lp k laws_eqFrameS [] fu 4 (n + 1) (qfj x0 z1 l2 z3 l4) =
 cond (decide (x0 < nI (List.length l2)))
 (cond (decide (0 ≤ x0) && decide (x0 < nI (List.length l2)))
 (cond (decide (0 ≤ x0) && decide (x0 < nI (List.length l4)))
 ((go k laws_eqFrame [.agg [.int .i64 (RC.num (rcAt (rrow l2 (Int.toNat x0)) 0)), .int .i64 (RC.num (rcAt (rrow l2 (Int.toNat x0)) 1)), .arr false (RC.nil (rcAt (rrow l2 (Int.toNat x0)) 2)) (.r3 (RC.r3s (rcAt (rrow l2 (Int.toNat x0)) 2))), .int .i64 (RC.num (rcAt (rrow l2 (Int.toNat x0)) 3)), .int .i64 (RC.num (rcAt (rrow l2 (Int.toNat x0)) 4)), .int .i64 (RC.num (rcAt (rrow l2 (Int.toNat x0)) 5)), .arr false (RC.nil (rcAt (rrow l2 (Int.toNat x0)) 6)) (.ints .i64 (RC.ints (rcAt (rrow l2 (Int.toNat x0)) 6)))], .agg [.int .i64 (RC.num (rcAt (rrow l4 (Int.toNat x0)) 0)), .int .i64 (RC.num (rcAt (rrow l4 (Int.toNat x0)) 1)), .arr false (RC.nil (rcAt (rrow l4 (Int.toNat x0)) 2)) (.r3 (RC.r3s (rcAt (rrow l4 (Int.toNat x0)) 2))), .int .i64 (RC.num (rcAt (rrow l4 (Int.toNat x0)) 3)), .int .i64 (RC.num (rcAt (rrow l4 (Int.toNat x0)) 4)), .int .i64 (RC.num (rcAt (rrow l4 (Int.toNat x0)) 5)), .arr false (RC.nil (rcAt (rrow l4 (Int.toNat x0)) 6)) (.ints .i64 (RC.ints (rcAt (rrow l4 (Int.toNat x0)) 6)))]]).bind fun r0 =>
 cond (!bit (nth r0 0))
 (some [.bool false])
 (lp k laws_eqFrameS [] fu 4 n (qfj (IntKind.wrap .i64 (x0 + 1)) z1 l2 z3 l4)))
 none)
 none)
 (some [.bool true]) := by kernel_rfl
theorem qcv (k : Nat) (a0 a1 : Int) (a2z : Bool) (a2 : L3) (a3 a4 a5 : Int) (a6z : Bool) (a6 : LI) (b0 b1 : Int) (b2z : Bool) (b2 : L3) (b3 b4 b5 : Int) (b6z : Bool) (b6 : LI) : go (k + 1) laws_eqFrame [.agg [.int .i64 a0, .int .i64 a1, .arr false a2z (.r3 a2), .int .i64 a3, .int .i64 a4, .int .i64 a5, .arr false a6z (.ints .i64 a6)], .agg [.int .i64 b0, .int .i64 b1, .arr false b2z (.r3 b2), .int .i64 b3, .int .i64 b4, .int .i64 b5, .arr false b6z (.ints .i64 b6)]] =
 cond (!decide (a0 = b0))
 (some [.bool false])
 ((go k laws_eqMesh [.agg [.int .i64 a1, .arr false a2z (.r3 a2)], .agg [.int .i64 b1, .arr false b2z (.r3 b2)]]).bind fun r0 =>
 cond (!bit (nth r0 0))
 (some [.bool false])
 (cond (!decide (a3 = b3))
 (some [.bool false])
 (cond (!decide (a4 = b4))
 (some [.bool false])
 (cond (!decide (a5 = b5))
 (some [.bool false])
 ((go k laws_eqIntS [.arr false a6z (.ints .i64 a6), .arr false b6z (.ints .i64 b6)]).bind fun r1 =>
 cond (!bit (nth r1 0))
 (some [.bool false])
 (some [.bool true])))))) := by kernel_rfl
theorem qc7 (k : Nat) (az : Bool) (a : L4) (b : Int) : go (k + 1) laws_szLedgerS [.arr false az (.r4 a), .int .i64 b] =
 cond (decide (IntKind.wrap .i64 (b - nI (List.length a)) < 0))
 (some [.int .i64 ((-1 : Int))])
 (some [.int .i64 (IntKind.wrap .i64 (b - nI (List.length a)))]) := by kernel_rfl
def qfq (x0 : Int) (z1 : Bool) (l2 : L4) (z3 : Bool) (l4 : L4) : St := ⟨fill 23 [(0, .sl 0 none), (3, .sl 1 none), (4, .int .i64 x0)], [], [.arr false z1 (.r4 l2), .arr true z3 (.r4 l4)]⟩
theorem qde (k : Nat) (az : Bool) (a : L4) : go (k + 1) laws_toLedgerS [.arr false az (.r4 a)] =
 cond (decide (0 ≤ nI (List.length a)) && decide (nI (List.length a) ≤ nI (List.length a)) && decide (nI (List.length a) ≤ nI bigLen))
 (lp k laws_toLedgerS [] [] 3 k (qfq 0 az a false (List.replicate (Int.toNat (nI (List.length a))) zz4)))
 none := by kernel_rfl
theorem qd8 (k n : Nat) (fu : FU) (x0 : Int) (z1 : Bool) (l2 : L4) (z3 : Bool) (l4 : L4) : lp k laws_toLedgerS [] fu 3 (n + 1) (qfq x0 z1 l2 z3 l4) =
 cond (decide (x0 < nI (List.length l2)))
 (cond (decide (0 ≤ x0) && decide (x0 < nI (List.length l2)))
 ((go k laws_toLedger [.agg [.int .i64 (Prod.fst (List.getD l2 (Int.toNat x0) zz4)), .int .i64 (Prod.fst (Prod.snd (List.getD l2 (Int.toNat x0) zz4))), .int .i64 (Prod.fst (Prod.snd (Prod.snd (List.getD l2 (Int.toNat x0) zz4)))), .int .i64 (Prod.snd (Prod.snd (Prod.snd (List.getD l2 (Int.toNat x0) zz4))))]]).bind fun r0 =>
 cond (decide (0 ≤ x0) && decide (x0 < nI (List.length l4)))
 (lp k laws_toLedgerS [] fu 3 n (qfq (IntKind.wrap .i64 (x0 + 1)) z1 l2 z3 (List.set l4 (Int.toNat x0) (D.toInt (D.cell 0 (nth r0 0)), D.toInt (D.cell 1 (nth r0 0)), D.toInt (D.cell 2 (nth r0 0)), D.toInt (D.cell 3 (nth r0 0))))))
 none)
 none)
 (some [.arr true z3 (.r4 l4)]) := by kernel_rfl
def qfm (x0 : Int) (z1 : Bool) (l2 : L4) (z3 : Bool) (l4 : L4) : St := ⟨fill 27 [(0, .sl 0 none), (1, .sl 1 none), (5, .int .i64 x0)], [], [.arr false z1 (.r4 l2), .arr false z3 (.r4 l4)]⟩
theorem qc1 (k : Nat) (az : Bool) (a : L4) (bz : Bool) (b : L4) : go (k + 1) laws_eqLedgerS [.arr false az (.r4 a), .arr false bz (.r4 b)] =
 cond (!decide (nI (List.length a) = nI (List.length b)))
 (some [.bool false])
 (lp k laws_eqLedgerS [] [] 4 k (qfm 0 az a bz b)) := by kernel_rfl
theorem qd4 (k n : Nat) (fu : FU) (x0 : Int) (z1 : Bool) (l2 : L4) (z3 : Bool) (l4 : L4) : lp k laws_eqLedgerS [] fu 4 (n + 1) (qfm x0 z1 l2 z3 l4) =
 cond (decide (x0 < nI (List.length l2)))
 (cond (decide (0 ≤ x0) && decide (x0 < nI (List.length l2)))
 (cond (decide (0 ≤ x0) && decide (x0 < nI (List.length l4)))
 ((go k laws_eqLedger [.agg [.int .i64 (Prod.fst (List.getD l2 (Int.toNat x0) zz4)), .int .i64 (Prod.fst (Prod.snd (List.getD l2 (Int.toNat x0) zz4))), .int .i64 (Prod.fst (Prod.snd (Prod.snd (List.getD l2 (Int.toNat x0) zz4)))), .int .i64 (Prod.snd (Prod.snd (Prod.snd (List.getD l2 (Int.toNat x0) zz4))))], .agg [.int .i64 (Prod.fst (List.getD l4 (Int.toNat x0) zz4)), .int .i64 (Prod.fst (Prod.snd (List.getD l4 (Int.toNat x0) zz4))), .int .i64 (Prod.fst (Prod.snd (Prod.snd (List.getD l4 (Int.toNat x0) zz4)))), .int .i64 (Prod.snd (Prod.snd (Prod.snd (List.getD l4 (Int.toNat x0) zz4))))]]).bind fun r0 =>
 cond (!bit (nth r0 0))
 (some [.bool false])
 (lp k laws_eqLedgerS [] fu 4 n (qfm (IntKind.wrap .i64 (x0 + 1)) z1 l2 z3 l4)))
 none)
 none)
 (some [.bool true]) := by kernel_rfl
theorem qdd (k : Nat) (a0 a1 a2 a3 : Int) : go (k + 1) laws_toLedger [.agg [.int .i64 a0, .int .i64 a1, .int .i64 a2, .int .i64 a3]] =
 some [.agg [.int .i64 a0, .int .i64 a1, .int .i64 a2, .int .i64 a3]] := by kernel_rfl
theorem qc0 (k : Nat) (a0 a1 a2 a3 b0 b1 b2 b3 : Int) : go (k + 1) laws_eqLedger [.agg [.int .i64 a0, .int .i64 a1, .int .i64 a2, .int .i64 a3], .agg [.int .i64 b0, .int .i64 b1, .int .i64 b2, .int .i64 b3]] =
 cond (!decide (a0 = b0))
 (some [.bool false])
 (cond (!decide (a1 = b1))
 (some [.bool false])
 (cond (!decide (a2 = b2))
 (some [.bool false])
 (cond (!decide (a3 = b3))
 (some [.bool false])
 (some [.bool true])))) := by kernel_rfl

end Go.Proofs.Ytcaapedadpnjoaa
end
section
namespace Go.Proofs.Ytcaapedadpnjoaa
open Go Go.RowKit Go.Ev
set_option maxRecDepth 20000
abbrev Ldg4 := Int × Int × Int × Int
theorem qa7 (k : Nat) (hk : 2000000 ≤ k) (a0 : Int) (a1 : Int) (a2 : Int) (a3 : Int) : go (k + 1) laws_toLedger [(.agg [(.int .i64 (a0)), (.int .i64 (a1)), (.int .i64 (a2)), (.int .i64 (a3))])] = some [.agg [.int .i64 a0, .int .i64 a1, .int .i64 a2, .int .i64 a3]] := by
  rw [qdd]
theorem qep (k : Nat) (hk : 2000000 ≤ k) (fu : List (Nat × Nat)) (z z' : Bool) (l : List Ldg4) (hl : (l.length : Int) ≤ 1048576) : ∀ (n i : Nat) (o : List Ldg4), i ≤ l.length → o.length = l.length → l.length - i < n →
    lp (k + 1) laws_toLedgerS [] fu 3 (n) (qfq (i : Int) z l z' o) = some [.arr true z' (.r4 (o.take i ++ l.drop i))]
  | 0, i, o, hi, ho, hn => by omega
  | n + 1, i, o, hi, ho, hn => by
    rw [qd8]
    by_cases h : i < l.length
    · simp (disch := omega) only [wk, bit, nI, qa7]
      rw [qep k hk fu z z' l hl n (i + 1) _ (by omega) (by simp [ho]) (by omega)]
      exact congrArg (fun x => some [D.arr true z' (.r4 x)]) (qfv l o i zz4 h ho)
    · simp (disch := omega) only [wk, bit, nI]
      have hil : i = l.length := by omega
      rw [hil, List.drop_length, List.append_nil, List.take_of_length_le (by omega)]
theorem qa8 (k : Nat) (hk : 2000000 ≤ k) (az : Bool) (a : List (Int × Int × Int × Int)) (hl : (a.length : Int) ≤ 1048576) : go (k + 2) laws_toLedgerS [(.arr false (az) (.r4 (a)))] = some [.arr true false (.r4 a)] := by
  rw [qde]
  simp (disch := omega) only [wk, bit, nI]
  refine Eq.trans (qep k hk [] az false a hl _ 0 (List.replicate a.length zz4) (by omega) (by simp) (by omega)) ?_
  simp
theorem qa1 (k : Nat) (hk : 2000000 ≤ k) (az : Bool) (a : List (Int × Int × Int × Int)) (b : Int) (hl : (a.length : Int) ≤ 9223372036854775807) (hb : 0 ≤ b) (hb' : b ≤ 1048576) : go (k + 1) laws_szLedgerS [(.arr false (az) (.r4 (a))), (.int .i64 (b))] = some [.int .i64 (if (a.length : Int) ≤ b then b - a.length else -1)] := by
  rw [qc7]
  by_cases h : (a.length : Int) ≤ b
  · simp (disch := omega) only [wk, bit, nI, if_pos h]
  · simp (disch := omega) only [wk, bit, nI, if_neg h]
theorem qau (k : Nat) (hk : 2000000 ≤ k) (a0 a1 a2 a3 : Int) : go (k + 1) laws_eqLedger [.agg [.int .i64 a0, .int .i64 a1, .int .i64 a2, .int .i64 a3], .agg [.int .i64 a0, .int .i64 a1, .int .i64 a2, .int .i64 a3]] = some [.bool true] := by
  rw [qc0]
  simp (disch := omega) only [wk, bit, nI, dT rfl]
theorem qem (k : Nat) (hk : 2000000 ≤ k) (fu : List (Nat × Nat)) (z z' : Bool) (l : List Ldg4) (hl : (l.length : Int) ≤ 1048576) : ∀ (n i : Nat), i ≤ l.length → l.length - i < n →
    lp (k + 1) laws_eqLedgerS [] fu 4 (n) (qfm (i : Int) z l z' l) = some [.bool true]
  | 0, i, hi, hn => by omega
  | n + 1, i, hi, hn => by
    rw [qd4]
    by_cases g : i < l.length
    · have IH := qem k hk fu z z' l hl n (i + 1) (by omega) (by omega)
      simp (disch := omega) only [wk, bit, nI, qau, IH]
    · simp (disch := omega) only [wk, bit, nI]
theorem qav (k : Nat) (hk : 2000000 ≤ k) (z z' : Bool) (l : List Ldg4) (hl : (l.length : Int) ≤ 1048576) : go (k + 2) laws_eqLedgerS [.arr false z (.r4 l), .arr false z' (.r4 l)] = some [.bool true] := by
  rw [qc1]
  have e := qem k hk [] z z' l hl (k + 1) 0 (by omega) (by omega)
  rw [show ((0 : Nat) : Int) = 0 from rfl] at e
  simp (disch := omega) only [wk, bit, nI]
  exact e
def lnOk (r : List RC) : Prop := ((rcAt r 2).r3s.length : Int) ≤ 1048576 ∧ ((rcAt r 6).ints.length : Int) ≤ 1048576
def qee (r : List RC) : Prop := ((rcAt r 2).r3s.length : Int) ≤ 9223372036854775807 ∧ ((rcAt r 6).ints.length : Int) ≤ 9223372036854775807
theorem qax (k : Nat) (hk : 2000000 ≤ k) (a0 : Int) (a1 : Int) (a2z : Bool) (a2 : List (Int × Int × Int)) (a3 : Int) (a4 : Int) (a5 : Int) (a6z : Bool) (a6 : List Int) (b : Int) (h2 : (a2.length : Int) ≤ 9223372036854775807) (h6 : (a6.length : Int) ≤ 9223372036854775807) (hb : 0 ≤ b) (hb' : b ≤ 1048576) : go (k + 3) laws_szFrame [(.agg [(.int .i64 (a0)), (.int .i64 (a1)), (.arr false (a2z) (.r3 (a2))), (.int .i64 (a3)), (.int .i64 (a4)), (.int .i64 (a5)), (.arr false (a6z) (.ints .i64 (a6)))]), (.int .i64 (b))] = some [.int .i64 (if (a2.length : Int) ≤ b then (if (a6.length : Int) ≤ b - a2.length then b - a2.length - a6.length else -1) else -1)] := by
  rw [qc3]
  by_cases h : (a2.length : Int) ≤ b
  · rw [if_pos h]
    by_cases h' : (a6.length : Int) ≤ b - a2.length
    · simp (disch := omega) only [wk, bit, nI, qa2, qa0, if_pos h, if_pos h']
    · simp (disch := omega) only [wk, bit, nI, qa2, qa0, if_pos h, if_neg h']
  · simp (disch := omega) only [wk, bit, nI, qa2, if_neg h]
theorem qeu (k : Nat) (hk : 2000000 ≤ k) (fu : List (Nat × Nat)) (z : Bool) (l : List (List RC)) (hl : (l.length : Int) ≤ 1048576) (hf : ∀ i, i < l.length → qee (rrow l i)) : ∀ (m N i : Nat) (x : Int), i + m = l.length → 0 ≤ x ∧ x ≤ 1048576 → m < N →
    ∃ y, lp (k + 3) laws_szFrameS [] fu 5 (N) (qfn x (i : Int) z l) = some [.int .i64 y] ∧ (y < 0 ∨ (0 ≤ y ∧ y ≤ 1048576 ∧ ∀ j, i ≤ j → j < l.length → lnOk (rrow l j)))
  | 0, N + 1, i, x, hi, hx, hN => by
    refine ⟨x, ?_, .inr ⟨hx.1, hx.2, fun j h1 h2 => by omega⟩⟩
    rw [qd5]
    simp (disch := omega) only [wk, bit, nI]
  | m + 1, N + 1, i, x, hi, hx, hN => by
    rw [qd5]
    have f := hf i (by omega)
    have e := qax k (by omega) (rcAt (rrow l i) 0).num (rcAt (rrow l i) 1).num (rcAt (rrow l i) 2).nil (rcAt (rrow l i) 2).r3s (rcAt (rrow l i) 3).num (rcAt (rrow l i) 4).num (rcAt (rrow l i) 5).num (rcAt (rrow l i) 6).nil (rcAt (rrow l i) 6).ints x f.1 f.2 hx.1 hx.2
    by_cases h : ((rcAt (rrow l i) 2).r3s.length : Int) ≤ x
    case neg =>
      rw [if_neg h] at e
      exact ⟨-1, by simp (disch := omega) only [wk, bit, nI, e], .inl (by omega)⟩
    rw [if_pos h] at e
    by_cases h' : ((rcAt (rrow l i) 6).ints.length : Int) ≤ x - (rcAt (rrow l i) 2).r3s.length
    case neg =>
      rw [if_neg h'] at e
      exact ⟨-1, by simp (disch := omega) only [wk, bit, nI, e], .inl (by omega)⟩
    rw [if_pos h'] at e
    obtain ⟨y, e2, p⟩ := qeu k hk fu z l hl hf m N (i + 1) (x - (rcAt (rrow l i) 2).r3s.length - (rcAt (rrow l i) 6).ints.length) (by omega) (by omega) (by omega)
    refine ⟨y, ?_, ?_⟩
    · simp (disch := omega) only [wk, bit, nI, e]
      exact e2
    · rcases p with p | ⟨p1, p2, p3⟩
      · exact .inl p
      · refine .inr ⟨p1, p2, fun j h1 h2 => ?_⟩
        by_cases hj : j = i
        · subst hj; exact ⟨by omega, by omega⟩
        · exact p3 j (by omega) h2
theorem qay (k : Nat) (hk : 2000000 ≤ k) (z : Bool) (l : List (List RC)) (hl : (l.length : Int) ≤ 9223372036854775807) (hf : ∀ i, i < l.length → qee (rrow l i)) : ∃ y, go (k + 4) laws_szFrameS [.rows z zFr l, .int .i64 1048576] = some [.int .i64 y] ∧ (y < 0 ∨ (0 ≤ y ∧ y ≤ 1048576 ∧ (l.length : Int) ≤ 1048576 ∧ ∀ j, j < l.length → lnOk (rrow l j))) := by
  rw [qc4]
  by_cases h : (l.length : Int) ≤ 1048576
  case neg => exact ⟨-1, by simp (disch := omega) only [wk, bit, nI], .inl (by omega)⟩
  obtain ⟨y, e, p⟩ := qeu k hk [] z l h hf l.length (k + 3) 0 (1048576 - l.length) (by omega) (by omega) (by omega)
  rw [show ((0 : Nat) : Int) = 0 from rfl] at e
  refine ⟨y, ?_, ?_⟩
  · simp (disch := omega) only [wk, bit, nI]
    exact e
  · rcases p with p | ⟨p1, p2, p3⟩
    · exact .inl p
    · exact .inr ⟨p1, p2, h, fun j hj => p3 j (by omega) hj⟩
theorem qap (k : Nat) (hk : 2000000 ≤ k) (a b c d e : Int) (z1 z2 z3 z4 : Bool) (l : List Cell) (m : List Int) (hl : (l.length : Int) ≤ 1048576) (hm : (m.length : Int) ≤ 1048576) :
    go (k + 4) laws_eqFrame [.agg [.int .i64 a, .int .i64 b, .arr false z1 (.r3 l), .int .i64 c, .int .i64 d, .int .i64 e, .arr false z2 (.ints .i64 m)], .agg [.int .i64 a, .int .i64 b, .arr false z3 (.r3 l), .int .i64 c, .int .i64 d, .int .i64 e, .arr false z4 (.ints .i64 m)]] = some [.bool true] := by
  rw [qcv]
  simp (disch := omega) only [wk, bit, nI, qaw, qat, dT rfl]
theorem qef (k : Nat) (hk : 2000000 ≤ k) (fu : List (Nat × Nat)) (z z' : Bool) (l : List (List RC)) (hl : (l.length : Int) ≤ 1048576) (hf : ∀ i, i < l.length → lnOk (rrow l i)) : ∀ (n i : Nat), i ≤ l.length → l.length - i < n →
    lp (k + 4) laws_eqFrameS [] fu 4 (n) (qfj (i : Int) z l z' l) = some [.bool true]
  | 0, i, hi, hn => by omega
  | n + 1, i, hi, hn => by
    rw [qd1]
    by_cases g : i < l.length
    · have IH := qef k hk fu z z' l hl hf n (i + 1) (by omega) (by omega)
      have f := hf i g
      have e := qap k (by omega) (rcAt (rrow l i) 0).num (rcAt (rrow l i) 1).num (rcAt (rrow l i) 3).num (rcAt (rrow l i) 4).num (rcAt (rrow l i) 5).num (rcAt (rrow l i) 2).nil (rcAt (rrow l i) 6).nil (rcAt (rrow l i) 2).nil (rcAt (rrow l i) 6).nil (rcAt (rrow l i) 2).r3s (rcAt (rrow l i) 6).ints f.1 f.2
      simp (disch := omega) only [wk, bit, nI, e]
      exact IH
    · simp (disch := omega) only [wk, bit, nI]
theorem qaq (k : Nat) (hk : 2000000 ≤ k) (z z' : Bool) (l : List (List RC)) (hl : (l.length : Int) ≤ 1048576) (hf : ∀ i, i < l.length → lnOk (rrow l i)) : go (k + 5) laws_eqFrameS [.rows z zFr l, .rows z' zFr l] = some [.bool true] := by
  rw [qcw]
  have e := qef k hk [] z z' l hl hf (k + 4) 0 (by omega) (by omega)
  rw [show ((0 : Nat) : Int) = 0 from rfl] at e
  simp (disch := omega) only [wk, bit, nI]
  exact e
end Go.Proofs.Ytcaapedadpnjoaa
end
section
namespace Go.Proofs.Ytcaapedadpnjoaa
open Go Go.RowKit Go.Ev
theorem qfd {r : List RC} (h : All2 RcFit zFr r) : qee r ∧ (lnOk r → okFr r = true ∧ okFr (cpFr r) = true ∧ lnOk (cpFr r)) := by
  cases h with | cons h0 h => cases h with | cons h1 h => cases h with | cons h2 h => cases h with | cons h3 h => cases h with | cons h4 h => cases h with | cons h5 h => cases h with | cons h6 h => cases h with | nil =>
  rename_i a0 a1 a2 a3 a4 a5 a6
  cases a0 <;> first | exact h0.elim | skip
  cases a1 <;> first | exact h1.elim | skip
  cases a2 <;> first | exact h2.elim | skip
  cases a3 <;> first | exact h3.elim | skip
  cases a4 <;> first | exact h4.elim | skip
  cases a5 <;> first | exact h5.elim | skip
  cases a6 <;> first | exact h6.elim | skip
  refine ⟨⟨?_, ?_⟩, fun ok => ⟨?_, ?_, ok⟩⟩
  · have := h2.2.1
    simp only [maxLen] at this
    show ((_ : List (Int × Int × Int)).length : Int) ≤ _
    simp only [rcAt, List.getD_cons_succ, List.getD_cons_zero, RC.r3s]; omega
  · have := h6.2.1
    simp only [maxLen] at this
    simp only [rcAt, List.getD_cons_succ, List.getD_cons_zero, RC.ints]; omega
  · obtain ⟨o1, o2⟩ := ok
    simp only [rcAt, List.getD_cons_succ, List.getD_cons_zero, RC.ints, RC.r3s] at o1 o2
    simp only [okFr, o1, o2, decide_true, Bool.and_true]
  · obtain ⟨o1, o2⟩ := ok
    simp only [rcAt, List.getD_cons_succ, List.getD_cons_zero, RC.ints, RC.r3s] at o1 o2
    simp only [cpFr, okFr, o1, o2, decide_true, Bool.and_true]
theorem qfe {l : List (List RC)} {i : Nat} (h : i < l.length) : rrow (l.map cpFr) i = cpFr (rrow l i) := by
  simp [rrow, List.getD_eq_getElem?_getD, h]
theorem qf3 {w w' : World} {l : List (List RC)} (I : TfsI w l l.length w') : ∃ F, RepD w' (.rows false zFr (l.map cpFr)) (.slice (some ⟨w.heap.size, 0, none⟩) l.length l.length) F ∧ Still F := by
  obtain ⟨uss, hR, hC, hT, hI, hF, hS⟩ := I
  rw [List.take_length] at hR
  refine ⟨_, by
    simp only [RepD]
    refine ⟨⟨some ⟨w.heap.size, 0, none⟩, l.length, l.length, 7, uss⟩, rfl, ⟨by simp, rfl, by simp, (fun h => by cases h), (fun x hx => ?_), (fun h => by cases h), hR⟩, rfl⟩
    simp only [Option.some.injEq] at hx
    subst hx
    refine ⟨Nat.le_refl _, fun j u hj => ?_⟩
    have := hC j u hj
    rwa [Addr.add_mid], fun A hA => ?_⟩
  rcases List.mem_cons.1 hA with rfl | hA
  · rfl
  · rw [List.mem_singleton.1 hA]
theorem qf2 {az : Bool} {l : List (List RC)} (hl : l.length ≤ 1048576) (hok : ∀ i, i < l.length → okFr (rrow l i) = true) {w : World} {v : Value} {F : Feet} (hd : RepD w (.rows az zFr l) v F) :
    Calls Try.prog 17 #[v] w fun e w' => ∃ v' F', e = .returned v' ∧ RepD w' (.rows false zFr (l.map cpFr)) v' F' ∧ Still F' ∧ RowKit.Below w.heap.size w w' := by
  simp only [RepD] at hd
  obtain ⟨p, rfl, ⟨q1, q2, q3, q4, q5, _, q7⟩, _⟩ := hd
  rw [← q1]
  refine (qf4 (z := az) hl hok w p.base p.cap p.inn q7 (fun x hx => (q5 x hx).2) (fun h => by have := (q4 h).2; omega) (by
    cases h : p.base with
    | none => exact .inr rfl
    | some x => have := (q5 x h).1; exact .inl (by omega))).mono ?_
  rintro e w' ⟨rfl, I⟩
  obtain ⟨G, hG, sG⟩ := qf3 I
  obtain ⟨_, _, _, _, _, hF, _⟩ := I
  exact ⟨_, G, rfl, hG, sG, qdr hF fun b off hb h => by omega⟩
theorem two {w : World} {d e : D} {v u : Value} {F G : Feet} (h1 : RepD w d v F) (h2 : RepD w e u G) : RepDs w [d, e] [v, u] (F ++ G) := by
  simp only [RepDs]
  exact ⟨v, [u], F, G, rfl, rfl, h1, u, [], G, [], rfl, (List.append_nil G).symm, h2, rfl, rfl⟩
theorem one' {w : World} {d : D} {v : Value} {F : Feet} (h1 : RepD w d v F) : RepDs w [d] [v] F := by
  simp only [RepDs]
  exact ⟨v, [], F, [], rfl, (List.append_nil F).symm, h1, rfl, rfl⟩
theorem qfa {w : World} {k : IntKind} {n : Int} : RepD w (.int k n) (.int k n) [] := by simp [RepD]
theorem qf7 {bz : Bool} {b : List Ldg4} (hb : (b.length : Int) ≤ 1048576) {w : World} {v : Value} {F : Feet} (hd : RepD w (.arr false bz (.r4 b)) v F) (hF : Still F) :
    Calls Try.prog 18 #[v] w fun e w' => ∃ v' F', e = .returned v' ∧ RepD w' (.arr false false (.r4 b)) v' F' ∧ Still F' ∧ RowKit.Below w.heap.size w w' := by
  have e1 : ev Try.prog An (2000000 + 2) 18 [.arr false bz (.r4 b)] = some [.arr true false (.r4 b)] := qa8 2000000 (by omega) bz b hb
  have ct : Contract Try.prog 18 [] [.arr false bz (.r4 b)] [.arr true false (.r4 b)] := ev_contract good noExt e1
  refine (ct.one (args := #[v]) (one' hd) hF).mono ?_
  rintro e w' ⟨v', F', rfl, hv, hs, hn, hbel⟩
  obtain ⟨G, hG, sG⟩ := RepD.ro _ hv
  exact ⟨v', G, rfl, hG, sG, hbel⟩
end Go.Proofs.Ytcaapedadpnjoaa
end
section
namespace Go.Proofs.Ytcaapedadpnjoaa
open Go Go.RowKit Go.Ev
theorem bel {w W W' : World} (h : RowKit.Below w.heap.size w W) (h' : RowKit.Below W.heap.size W W') : RowKit.Below w.heap.size w W' := h.trans (h'.mono h.size)
set_option maxRecDepth 100000 in
set_option maxHeartbeats 4000000 in
theorem law_FramesHold {az bz : Bool} {a : List (List RC)} {b : List Ldg4} (ha : (a.length : Int) ≤ 9223372036854775807) (hr : ∀ i, i < a.length → All2 RcFit zFr (rrow a i)) (hb : (b.length : Int) ≤ 9223372036854775807) (w : World) (va vb : Value) (FA FB : Feet)
    (hA : RepD w (.rows az zFr a) va FA) (sA : Still FA) (hB : RepD w (.arr false bz (.r4 b)) vb FB) (sB : Still FB) :
    Calls Try.prog 4 #[va, vb] w fun e w' => e = .returned (.bool true) ∧ RowKit.Below w.heap.size w w' := by
  obtain ⟨y, ey, py⟩ := qay 2000000 (by omega) az a ha (fun i hi => (qfd (hr i hi)).1)
  have c14 : Contract Try.prog 14 [] [.rows az zFr a, .int .i64 1048576] [.int .i64 y] := ev_contract good noExt ey
  have k14 := c14.int (args := #[va, .int .i64 1048576]) (two hA qfa) (sA.append Still.nil)
  go_enter Try.func4, Try.ntmps4
  go_wp2_with (go_at_call 14; refine k14.mono ?_)
  rintro e W1 ⟨rfl, b1⟩
  clear k14 c14 ey
  by_cases hy : y < 0
  · have hd : decide (y < 0) = true := decide_eq_true hy
    go_wp2
    go_ret
    exact ⟨rfl, b1⟩
  have hd : decide (y < 0) = false := decide_eq_false hy
  obtain ⟨y0, y1, ha', hln⟩ := py.resolve_left hy
  obtain ⟨x, e15, px⟩ : ∃ x, ev Try.prog An (2000000 + 1) 15 [.arr false bz (.r4 b), .int .i64 y] = some [.int .i64 x] ∧ (x < 0 ∨ (b.length : Int) ≤ 1048576) := by
    refine ⟨_, qa1 2000000 (by omega) bz b y hb y0 y1, ?_⟩
    by_cases h : (b.length : Int) ≤ y
    · exact .inr (by omega)
    · rw [if_neg h]; exact .inl (by omega)
  have c15 : Contract Try.prog 15 [] [.arr false bz (.r4 b), .int .i64 y] [.int .i64 x] := ev_contract good noExt e15
  have k15 := c15.int (args := #[vb, .int .i64 y]) (two (RepD.below b1 hB) qfa) (sB.append Still.nil)
  go_wp2_with (go_at_call 15; refine k15.mono ?_)
  rintro e W2 ⟨rfl, b2⟩
  have b2 := bel b1 b2
  clear k15 c15 e15 b1
  by_cases hxn : x < 0
  · have hd2 : decide (x < 0) = true := decide_eq_true hxn
    go_wp2
    go_ret
    exact ⟨rfl, b2⟩
  have hd2 : decide (x < 0) = false := decide_eq_false hxn
  have hb' := px.resolve_left hxn
  have hal : a.length ≤ 1048576 := by omega
  have hok : ∀ i, i < a.length → okFr (rrow a i) = true := fun i hi => ((qfd (hr i hi)).2 (hln i hi)).1
  have ml : (a.map cpFr).length = a.length := List.length_map ..
  have hok2 : ∀ i, i < (a.map cpFr).length → okFr (rrow (a.map cpFr) i) = true := fun i hi => by
    rw [ml] at hi; rw [qfe hi]; exact ((qfd (hr i hi)).2 (hln i hi)).2.1
  have hln2 : ∀ i, i < (a.map cpFr).length → lnOk (rrow (a.map cpFr) i) := fun i hi => by
    rw [ml] at hi; rw [qfe hi]; exact ((qfd (hr i hi)).2 (hln i hi)).2.2
  have k17 := qf2 hal hok (RepD.below b2 hA)
  go_wp2_with (go_at_call 17; refine k17.mono ?_)
  rintro e W3 ⟨v1, G1, rfl, r1, s1, b3'⟩
  have b3 := bel b2 b3'
  clear k17 b3'
  have k18 := qf7 hb' (RepD.below b3 hB) sB
  go_wp2_with (go_at_call 18; refine k18.mono ?_)
  rintro e W4 ⟨v2, G2, rfl, r2, s2, b4'⟩
  have b4 := bel b3 b4'
  have r1 := RepD.below b4' r1
  clear k18 b4'
  have e16 : ev Try.prog An (2000000 + 7) 16 [.rows false zFr (a.map cpFr), .arr false false (.r4 b)] = some [.bool (qdq (a.map cpFr) b)] := qbb 2000000 (by omega) false false _ b (by rw [ml]; omega) hb' hok2
  have c16 : Contract Try.prog 16 [] [.rows false zFr (a.map cpFr), .arr false false (.r4 b)] [.bool (qdq (a.map cpFr) b)] := ev_contract good noExt e16
  have k16 := c16.bool (args := #[v1, v2]) (two r1 r2) (s1.append s2)
  go_wp2_with (go_at_call 16; refine k16.mono ?_)
  rintro e W5 ⟨rfl, b5⟩
  have b5 := bel b4 b5
  clear k16 c16 e16 r1 r2 s1 s2 b4 b3
  have k17 := qf2 hal hok (RepD.below b5 hA)
  go_wp2_with (go_at_call 17; refine k17.mono ?_)
  rintro e W6 ⟨x0, G3, rfl, r3, s3, b6'⟩
  have b6 := bel b5 b6'
  clear k17 b6'
  have k18 := qf7 hb' (RepD.below b6 hB) sB
  go_wp2_with (go_at_call 18; refine k18.mono ?_)
  rintro e W7 ⟨x1, G4, rfl, r4, s4, b7'⟩
  have b7 := bel b6 b7'
  have r3 := RepD.below b7' r3
  clear k18 b7'
  have e19 : ev Try.prog An (2000000 + 8) 19 [.rows false zFr (a.map cpFr), .arr false false (.r4 b)] = some [.bool (qdq (a.map cpFr) b)] := qae 2000000 (by omega) false false _ b (by rw [ml]; omega) hb' hok2
  have c19 : Contract Try.prog 19 [] [.rows false zFr (a.map cpFr), .arr false false (.r4 b)] [.bool (qdq (a.map cpFr) b)] := ev_contract good noExt e19
  have k19 := c19.bool (args := #[x0, x1]) (two r3 r4) (s3.append s4)
  generalize hfh : qdq (a.map cpFr) b = fh at k19
  go_wp2_with (go_at_call 19; refine k19.mono ?_)
  rintro e W8 ⟨rfl, b8'⟩
  have b8 := bel b7 b8'
  have r3 := RepD.below b8' r3
  have r4 := RepD.below b8' r4
  clear k19 c19 e19 b8' b7 b6 b5
  have k17 := qf2 hal hok (RepD.below b8 hA)
  go_wp2_with (go_at_call 17; refine k17.mono ?_)
  rintro e W9 ⟨v3, G5, rfl, r5, s5, b9'⟩
  have b9 := bel b8 b9'
  have r3 := RepD.below b9' r3
  have r4 := RepD.below b9' r4
  clear k17 b9'
  have e20 : ev Try.prog An (2000000 + 5) 20 [.rows false zFr (a.map cpFr), .rows false zFr (a.map cpFr)] = some [.bool true] := qaq 2000000 (by omega) false false _ (by rw [ml]; omega) hln2
  have c20 : Contract Try.prog 20 [] [.rows false zFr (a.map cpFr), .rows false zFr (a.map cpFr)] [.bool true] := ev_contract good noExt e20
  have k20 := c20.bool (args := #[x0, v3]) (two r3 r5) (s3.append s5)
  go_wp2_with (go_at_call 20; refine k20.mono ?_)
  rintro e W10 ⟨rfl, b10'⟩
  have b10 := bel b9 b10'
  have r4 := RepD.below b10' r4
  clear k20 c20 e20 b10' b9 b8 r3 r5
  have k18 := qf7 hb' (RepD.below b10 hB) sB
  go_wp2_with (go_at_call 18; refine k18.mono ?_)
  rintro e W11 ⟨v4, G6, rfl, r6, s6, b11'⟩
  have b11 := bel b10 b11'
  have r4 := RepD.below b11' r4
  clear k18 b11'
  have e21 : ev Try.prog An (2000000 + 2) 21 [.arr false false (.r4 b), .arr false false (.r4 b)] = some [.bool true] := qav 2000000 (by omega) false false b hb'
  have c21 : Contract Try.prog 21 [] [.arr false false (.r4 b), .arr false false (.r4 b)] [.bool true] := ev_contract good noExt e21
  have k21 := c21.bool (args := #[x1, v4]) (two r4 r6) (s4.append s6)
  go_wp2_with (go_at_call 21; refine k21.mono ?_)
  rintro e W12 ⟨rfl, b12'⟩
  have b12 := bel b11 b12'
  clear k21 c21 e21
  go_wp2
  go_ret
  exact ⟨rfl, b12⟩
end Go.Proofs.Ytcaapedadpnjoaa
end
