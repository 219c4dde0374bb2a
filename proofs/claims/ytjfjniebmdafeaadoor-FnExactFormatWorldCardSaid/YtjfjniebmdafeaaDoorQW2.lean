/- What the program's functions compute, and plain facts of it (part 2). No condition beyond those that each theorem states. -/
import Derived.Test.YtjfjniebmdafeaaDoorQW1
set_option linter.unusedVariables false
set_option linter.unusedSimpArgs false
section
namespace Go.Proofs.YtjfjniebmdafeaaDoor
open Go.Ev
theorem qfl (k : Nat) (a0 a1 a2 : Int) : go (k + 1) laws_toId [(.agg [(.int .i64 (a0)), (.int .i64 (a1)), (.int .i64 (a2))])] =
 some [(.agg [(.int .i64 (a0)), (.int .i64 (a1)), (.int .i64 (a2))])] := by kernel_rfl
def qj3 (x0 : Int) (z1 : Bool) (l2 : List (Int × Int × Int)) (z3 : Bool) (l4 : List (Int × Int × Int)) : St := ⟨fill 23 [(0, (.sl 0 none)), (3, (.sl 1 none)), (4, (.int .i64 (x0)))], [], [(.arr false (z1) (.r3 (l2))), (.arr true (z3) (.r3 (l4)))]⟩
theorem qfm (k : Nat) (az : Bool) (a : List (Int × Int × Int)) : go (k + 1) laws_toIdS [(.arr false (az) (.r3 (a)))] =
 cond (decide ((0 : Int) ≤ nI (List.length a)) && decide (nI (List.length a) ≤ nI (List.length a)) && decide (nI (List.length a) ≤ nI bigLen))
 (lp k laws_toIdS [] [] 3 k (qj3 (0 : Int) az a false (List.replicate (Int.toNat (nI (List.length a))) zz3)))
 (none) := by kernel_rfl
theorem qhq (k n : Nat) (fu : List (Nat × Nat)) (x0 : Int) (z1 : Bool) (l2 : List (Int × Int × Int)) (z3 : Bool) (l4 : List (Int × Int × Int)) : lp k laws_toIdS [] fu 3 (n + 1) (qj3 x0 z1 l2 z3 l4) =
 cond (decide (x0 < nI (List.length l2)))
 (cond (decide ((0 : Int) ≤ x0) && decide (x0 < nI (List.length l2)))
 ((go k laws_toId [(.agg [(.int .i64 (Prod.fst (List.getD l2 (Int.toNat x0) zz3))), (.int .i64 (Prod.fst (Prod.snd (List.getD l2 (Int.toNat x0) zz3)))), (.int .i64 (Prod.snd (Prod.snd (List.getD l2 (Int.toNat x0) zz3))))])]).bind fun r0 =>
 cond (decide ((0 : Int) ≤ x0) && decide (x0 < nI (List.length l4)))
 (lp k laws_toIdS [] fu 3 n (qj3 (IntKind.wrap .i64 (x0 + (1 : Int))) z1 l2 z3 (List.set l4 (Int.toNat x0) (D.toInt (D.cell 0 (nth r0 0)), D.toInt (D.cell 1 (nth r0 0)), D.toInt (D.cell 2 (nth r0 0))))))
 (none))
 (none))
 (some [(.arr true (z3) (.r3 (l4)))]) := by kernel_rfl
theorem qfp (k : Nat) (a0 : Int) (a1z : Bool) (a1 : List (Int × Int × Int)) : go (k + 1) laws_toMesh [(.agg [(.int .i64 (a0)), (.arr false (a1z) (.r3 (a1)))])] =
 (go k laws_toIdS [(.arr false (a1z) (.r3 (a1)))]).bind fun r0 =>
 some [(.agg [(.int .i64 (a0)), (.arr true (D.nil (nth r0 0)) (.r3 (D.r3 (nth r0 0))))])] := by kernel_rfl
theorem qff (k : Nat) (az : Bool) (a : List (Int × Int × Int)) (b : Int) : go (k + 1) laws_szIdS [(.arr false (az) (.r3 (a))), (.int .i64 (b))] =
 cond (decide (IntKind.wrap .i64 (b - nI (List.length a)) < (0 : Int)))
 (some [(.int .i64 ((-1 : Int)))])
 (some [(.int .i64 (IntKind.wrap .i64 (b - nI (List.length a))))]) := by kernel_rfl
theorem qfh (k : Nat) (a0 : Int) (a1z : Bool) (a1 : List (Int × Int × Int)) (b : Int) : go (k + 1) laws_szMesh [(.agg [(.int .i64 (a0)), (.arr false (a1z) (.r3 (a1)))]), (.int .i64 (b))] =
 (go k laws_szIdS [(.arr false (a1z) (.r3 (a1))), (.int .i64 (b))]).bind fun r0 =>
 cond (decide (D.toInt (nth r0 0) < (0 : Int)))
 (some [(.int .i64 ((-1 : Int)))])
 (some [(.int .i64 (D.toInt (nth r0 0)))]) := by kernel_rfl
theorem qey (k : Nat) (a0 a1 a2 b0 b1 b2 : Int) : go (k + 1) laws_eqId [(.agg [(.int .i64 (a0)), (.int .i64 (a1)), (.int .i64 (a2))]), (.agg [(.int .i64 (b0)), (.int .i64 (b1)), (.int .i64 (b2))])] =
 cond (!decide (a0 = b0))
 (some [(.bool (false))])
 (cond (!decide (a1 = b1))
 (some [(.bool (false))])
 (cond (!decide (a2 = b2))
 (some [(.bool (false))])
 (some [(.bool (true))]))) := by kernel_rfl
def qjv (x0 : Int) (z1 : Bool) (l2 : List (Int × Int × Int)) (z3 : Bool) (l4 : List (Int × Int × Int)) : St := ⟨fill 27 [(0, (.sl 0 none)), (1, (.sl 1 none)), (5, (.int .i64 (x0)))], [], [(.arr false (z1) (.r3 (l2))), (.arr false (z3) (.r3 (l4)))]⟩
theorem qez (k : Nat) (az : Bool) (a : List (Int × Int × Int)) (bz : Bool) (b : List (Int × Int × Int)) : go (k + 1) laws_eqIdS [(.arr false (az) (.r3 (a))), (.arr false (bz) (.r3 (b)))] =
 cond (!decide (nI (List.length a) = nI (List.length b)))
 (some [(.bool (false))])
 (lp k laws_eqIdS [] [] 4 k (qjv (0 : Int) az a bz b)) := by kernel_rfl
theorem qhi (k n : Nat) (fu : List (Nat × Nat)) (x0 : Int) (z1 : Bool) (l2 : List (Int × Int × Int)) (z3 : Bool) (l4 : List (Int × Int × Int)) : lp k laws_eqIdS [] fu 4 (n + 1) (qjv x0 z1 l2 z3 l4) =
 cond (decide (x0 < nI (List.length l2)))
 (cond (decide ((0 : Int) ≤ x0) && decide (x0 < nI (List.length l2)))
 (cond (decide ((0 : Int) ≤ x0) && decide (x0 < nI (List.length l4)))
 ((go k laws_eqId [(.agg [(.int .i64 (Prod.fst (List.getD l2 (Int.toNat x0) zz3))), (.int .i64 (Prod.fst (Prod.snd (List.getD l2 (Int.toNat x0) zz3)))), (.int .i64 (Prod.snd (Prod.snd (List.getD l2 (Int.toNat x0) zz3))))]), (.agg [(.int .i64 (Prod.fst (List.getD l4 (Int.toNat x0) zz3))), (.int .i64 (Prod.fst (Prod.snd (List.getD l4 (Int.toNat x0) zz3)))), (.int .i64 (Prod.snd (Prod.snd (List.getD l4 (Int.toNat x0) zz3))))])]).bind fun r0 =>
 cond (!bit (nth r0 0))
 (some [(.bool (false))])
 (lp k laws_eqIdS [] fu 4 n (qjv (IntKind.wrap .i64 (x0 + (1 : Int))) z1 l2 z3 l4)))
 (none))
 (none))
 (some [(.bool (true))]) := by kernel_rfl
theorem qe2 (k : Nat) (a0 : Int) (a1z : Bool) (a1 : List (Int × Int × Int)) (b0 : Int) (b1z : Bool) (b1 : List (Int × Int × Int)) : go (k + 1) laws_eqMesh [(.agg [(.int .i64 (a0)), (.arr false (a1z) (.r3 (a1)))]), (.agg [(.int .i64 (b0)), (.arr false (b1z) (.r3 (b1)))])] =
 cond (!decide (a0 = b0))
 (some [(.bool (false))])
 ((go k laws_eqIdS [(.arr false (a1z) (.r3 (a1))), (.arr false (b1z) (.r3 (b1)))]).bind fun r0 =>
 cond (!bit (nth r0 0))
 (some [(.bool (false))])
 (some [(.bool (true))])) := by kernel_rfl
def qjz (x0 x1 : Int) (z2 : Bool) (l3 : List (Int × Int × Int)) : St := ⟨fill 34 [(0, (.sl 0 none)), (1, (.int .i64 (x0))), (5, (.int .i64 (x1)))], [(.sl 0 none)], [(.arr true (z2) (.r3 (l3)))]⟩
theorem qe8 (k : Nat) (az : Bool) (a : List (Int × Int × Int)) (b : Int) : go (k + 1) laws_markIdS [(.arr true (az) (.r3 (a))), (.int .i64 (b))] =
 lp k laws_markIdS [(.arr true (az) (.r3 (a)))] [] 2 k (qjz b (0 : Int) az a) := by kernel_rfl
theorem qhm (k n : Nat) (fu : List (Nat × Nat)) (az : Bool) (a : List (Int × Int × Int)) (x0 x1 : Int) (z2 : Bool) (l3 : List (Int × Int × Int)) : lp k laws_markIdS [(.arr true (az) (.r3 (a)))] fu 2 (n + 1) (qjz x0 x1 z2 l3) =
 cond (decide (x1 < nI (List.length l3)))
 (cond (decide ((0 : Int) ≤ x1) && decide (x1 < nI (List.length l3)))
 (cond (decide ((0 : Int) ≤ x1) && decide (x1 < nI (List.length (List.set l3 (Int.toNat x1) (x0, Prod.fst (Prod.snd (List.getD l3 (Int.toNat x1) zz3)), Prod.snd (Prod.snd (List.getD l3 (Int.toNat x1) zz3)))))))
 (cond (decide ((0 : Int) ≤ x1) && decide (x1 < nI (List.length (List.set (List.set l3 (Int.toNat x1) (x0, Prod.fst (Prod.snd (List.getD l3 (Int.toNat x1) zz3)), Prod.snd (Prod.snd (List.getD l3 (Int.toNat x1) zz3)))) (Int.toNat x1) (Prod.fst (List.getD (List.set l3 (Int.toNat x1) (x0, Prod.fst (Prod.snd (List.getD l3 (Int.toNat x1) zz3)), Prod.snd (Prod.snd (List.getD l3 (Int.toNat x1) zz3)))) (Int.toNat x1) zz3), IntKind.wrap .i64 (x0 + (1 : Int)), Prod.snd (Prod.snd (List.getD (List.set l3 (Int.toNat x1) (x0, Prod.fst (Prod.snd (List.getD l3 (Int.toNat x1) zz3)), Prod.snd (Prod.snd (List.getD l3 (Int.toNat x1) zz3)))) (Int.toNat x1) zz3)))))))
 (lp k laws_markIdS [(.arr true (az) (.r3 (a)))] fu 2 n (qjz (IntKind.wrap .i64 (IntKind.wrap .i64 (IntKind.wrap .i64 (x0 + (1 : Int)) + (1 : Int)) + (1 : Int))) (IntKind.wrap .i64 (x1 + (1 : Int))) z2 (List.set (List.set (List.set l3 (Int.toNat x1) (x0, Prod.fst (Prod.snd (List.getD l3 (Int.toNat x1) zz3)), Prod.snd (Prod.snd (List.getD l3 (Int.toNat x1) zz3)))) (Int.toNat x1) (Prod.fst (List.getD (List.set l3 (Int.toNat x1) (x0, Prod.fst (Prod.snd (List.getD l3 (Int.toNat x1) zz3)), Prod.snd (Prod.snd (List.getD l3 (Int.toNat x1) zz3)))) (Int.toNat x1) zz3), IntKind.wrap .i64 (x0 + (1 : Int)), Prod.snd (Prod.snd (List.getD (List.set l3 (Int.toNat x1) (x0, Prod.fst (Prod.snd (List.getD l3 (Int.toNat x1) zz3)), Prod.snd (Prod.snd (List.getD l3 (Int.toNat x1) zz3)))) (Int.toNat x1) zz3)))) (Int.toNat x1) (Prod.fst (List.getD (List.set (List.set l3 (Int.toNat x1) (x0, Prod.fst (Prod.snd (List.getD l3 (Int.toNat x1) zz3)), Prod.snd (Prod.snd (List.getD l3 (Int.toNat x1) zz3)))) (Int.toNat x1) (Prod.fst (List.getD (List.set l3 (Int.toNat x1) (x0, Prod.fst (Prod.snd (List.getD l3 (Int.toNat x1) zz3)), Prod.snd (Prod.snd (List.getD l3 (Int.toNat x1) zz3)))) (Int.toNat x1) zz3), IntKind.wrap .i64 (x0 + (1 : Int)), Prod.snd (Prod.snd (List.getD (List.set l3 (Int.toNat x1) (x0, Prod.fst (Prod.snd (List.getD l3 (Int.toNat x1) zz3)), Prod.snd (Prod.snd (List.getD l3 (Int.toNat x1) zz3)))) (Int.toNat x1) zz3)))) (Int.toNat x1) zz3), Prod.fst (Prod.snd (List.getD (List.set (List.set l3 (Int.toNat x1) (x0, Prod.fst (Prod.snd (List.getD l3 (Int.toNat x1) zz3)), Prod.snd (Prod.snd (List.getD l3 (Int.toNat x1) zz3)))) (Int.toNat x1) (Prod.fst (List.getD (List.set l3 (Int.toNat x1) (x0, Prod.fst (Prod.snd (List.getD l3 (Int.toNat x1) zz3)), Prod.snd (Prod.snd (List.getD l3 (Int.toNat x1) zz3)))) (Int.toNat x1) zz3), IntKind.wrap .i64 (x0 + (1 : Int)), Prod.snd (Prod.snd (List.getD (List.set l3 (Int.toNat x1) (x0, Prod.fst (Prod.snd (List.getD l3 (Int.toNat x1) zz3)), Prod.snd (Prod.snd (List.getD l3 (Int.toNat x1) zz3)))) (Int.toNat x1) zz3)))) (Int.toNat x1) zz3)), IntKind.wrap .i64 (IntKind.wrap .i64 (x0 + (1 : Int)) + (1 : Int))))))
 (none))
 (none))
 (none))
 (some [(.int .i64 (x0)), (.arr true (z2) (.r3 (l3)))]) := by kernel_rfl
theorem qfa (k : Nat) (a0 : Int) (a1z : Bool) (a1 : List (Int × Int × Int)) (b : Int) : go (k + 1) laws_markMesh [(.agg [(.int .i64 (a0)), (.arr true (a1z) (.r3 (a1)))]), (.int .i64 (b))] =
 (go k laws_markIdS [(.arr true (a1z) (.r3 (a1))), (.int .i64 (b))]).bind fun r0 =>
 some [(.int .i64 (D.toInt (nth r0 0))), (.agg [(.int .i64 (a0)), (.arr true (a1z) (.r3 (D.r3 (nth r0 1))))])] := by kernel_rfl
def qj4 (x0 : Int) (z1 : Bool) (l2 : List Int) (z3 : Bool) (l4 : List Int) : St := ⟨fill 22 [(0, (.sl 0 none)), (3, (.sl 1 none)), (4, (.int .i64 (x0)))], [], [(.arr false (z1) (.ints .i64 (l2))), (.arr true (z3) (.ints .i64 (l4)))]⟩
theorem qfn (k : Nat) (az : Bool) (a : List Int) : go (k + 1) laws_toIntS [(.arr false (az) (.ints .i64 (a)))] =
 cond (decide ((0 : Int) ≤ nI (List.length a)) && decide (nI (List.length a) ≤ nI (List.length a)) && decide (nI (List.length a) ≤ nI bigLen))
 (lp k laws_toIntS [] [] 3 k (qj4 (0 : Int) az a false (List.replicate (Int.toNat (nI (List.length a))) (0 : Int))))
 (none) := by kernel_rfl
theorem qhr (k n : Nat) (fu : List (Nat × Nat)) (x0 : Int) (z1 : Bool) (l2 : List Int) (z3 : Bool) (l4 : List Int) : lp k laws_toIntS [] fu 3 (n + 1) (qj4 x0 z1 l2 z3 l4) =
 cond (decide (x0 < nI (List.length l2)))
 (cond (decide ((0 : Int) ≤ x0) && decide (x0 < nI (List.length l2)))
 (cond (decide ((0 : Int) ≤ x0) && decide (x0 < nI (List.length l4)))
 (lp k laws_toIntS [] fu 3 n (qj4 (IntKind.wrap .i64 (x0 + (1 : Int))) z1 l2 z3 (List.set l4 (Int.toNat x0) (List.getD l2 (Int.toNat x0) (0 : Int)))))
 (none))
 (none))
 (some [(.arr true (z3) (.ints .i64 (l4)))]) := by kernel_rfl
theorem qfg (k : Nat) (az : Bool) (a : List Int) (b : Int) : go (k + 1) laws_szIntS [(.arr false (az) (.ints .i64 (a))), (.int .i64 (b))] =
 cond (decide (IntKind.wrap .i64 (b - nI (List.length a)) < (0 : Int)))
 (some [(.int .i64 ((-1 : Int)))])
 (some [(.int .i64 (IntKind.wrap .i64 (b - nI (List.length a))))]) := by kernel_rfl
def qjw (x0 : Int) (z1 : Bool) (l2 : List Int) (z3 : Bool) (l4 : List Int) : St := ⟨fill 26 [(0, (.sl 0 none)), (1, (.sl 1 none)), (5, (.int .i64 (x0)))], [], [(.arr false (z1) (.ints .i64 (l2))), (.arr false (z3) (.ints .i64 (l4)))]⟩
theorem qe0 (k : Nat) (az : Bool) (a : List Int) (bz : Bool) (b : List Int) : go (k + 1) laws_eqIntS [(.arr false (az) (.ints .i64 (a))), (.arr false (bz) (.ints .i64 (b)))] =
 cond (!decide (nI (List.length a) = nI (List.length b)))
 (some [(.bool (false))])
 (lp k laws_eqIntS [] [] 4 k (qjw (0 : Int) az a bz b)) := by kernel_rfl
theorem qhj (k n : Nat) (fu : List (Nat × Nat)) (x0 : Int) (z1 : Bool) (l2 : List Int) (z3 : Bool) (l4 : List Int) : lp k laws_eqIntS [] fu 4 (n + 1) (qjw x0 z1 l2 z3 l4) =
 cond (decide (x0 < nI (List.length l2)))
 (cond (decide ((0 : Int) ≤ x0) && decide (x0 < nI (List.length l2)))
 (cond (decide ((0 : Int) ≤ x0) && decide (x0 < nI (List.length l4)))
 (cond (!decide (List.getD l2 (Int.toNat x0) (0 : Int) = List.getD l4 (Int.toNat x0) (0 : Int)))
 (some [(.bool (false))])
 (lp k laws_eqIntS [] fu 4 n (qjw (IntKind.wrap .i64 (x0 + (1 : Int))) z1 l2 z3 l4)))
 (none))
 (none))
 (some [(.bool (true))]) := by kernel_rfl
def qj0 (x0 x1 : Int) (z2 : Bool) (l3 : List Int) : St := ⟨fill 19 [(0, (.sl 0 none)), (1, (.int .i64 (x0))), (5, (.int .i64 (x1)))], [(.sl 0 none)], [(.arr true (z2) (.ints .i64 (l3)))]⟩
theorem qe9 (k : Nat) (az : Bool) (a : List Int) (b : Int) : go (k + 1) laws_markIntS [(.arr true (az) (.ints .i64 (a))), (.int .i64 (b))] =
 lp k laws_markIntS [(.arr true (az) (.ints .i64 (a)))] [] 2 k (qj0 b (0 : Int) az a) := by kernel_rfl
theorem qhn (k n : Nat) (fu : List (Nat × Nat)) (az : Bool) (a : List Int) (x0 x1 : Int) (z2 : Bool) (l3 : List Int) : lp k laws_markIntS [(.arr true (az) (.ints .i64 (a)))] fu 2 (n + 1) (qj0 x0 x1 z2 l3) =
 cond (decide (x1 < nI (List.length l3)))
 (cond (decide ((0 : Int) ≤ x1) && decide (x1 < nI (List.length l3)))
 (lp k laws_markIntS [(.arr true (az) (.ints .i64 (a)))] fu 2 n (qj0 (IntKind.wrap .i64 (x0 + (1 : Int))) (IntKind.wrap .i64 (x1 + (1 : Int))) z2 (List.set l3 (Int.toNat x1) x0)))
 (none))
 (some [(.int .i64 (x0)), (.arr true (z2) (.ints .i64 (l3)))]) := by kernel_rfl

end Go.Proofs.YtjfjniebmdafeaaDoor
end
section
namespace Go.Proofs.YtjfjniebmdafeaaDoor
open Go.Ev
theorem qki {α : Type} (l o : List α) (i : Nat) (d : α) (h : i < l.length) (ho : o.length = l.length) : (o.set i (l.getD i d)).take (i + 1) ++ l.drop (i + 1) = o.take i ++ l.drop i := by
  rw [qd1 h d]
  have : (o.set i (l.getD i d)).take (i + 1) = o.take i ++ [l.getD i d] := by
    rw [List.take_succ_eq_append_getElem (by simp; omega)]
    simp [List.take_set_of_le]
  rw [this]; simp
theorem qb8 (k : Nat) (hk : 2000000 ≤ k) (a0 : Int) (a1 : Int) (a2 : Int) : go (k + 1) laws_toId [(.agg [(.int .i64 (a0)), (.int .i64 (a1)), (.int .i64 (a2))])] = some [.agg [.int .i64 a0, .int .i64 a1, .int .i64 a2]] := by rw [qfl]
theorem qik (k : Nat) (hk : 2000000 ≤ k) (fu : List (Nat × Nat)) (z z' : Bool) (l : List Cell) (hl : (l.length : Int) ≤ 1048576) : ∀ (n i : Nat) (o : List Cell), i ≤ l.length → o.length = l.length → l.length - i < n →
    lp (k + 1) laws_toIdS [] fu 3 (n) (qj3 (i : Int) z l z' o) = some [.arr true z' (.r3 (o.take i ++ l.drop i))]
  | 0, i, o, hi, ho, hn => by omega
  | n + 1, i, o, hi, ho, hn => by
    rw [qhq]
    by_cases h : i < l.length
    · simp (disch := omega) only [qai, nth0, nth1, nth2, nth3, bit, qc1, qc2, qdd, qdi, qdj, qdk, qdl, qdm, qdn, qdo, qc3, qc4, qc5, qc6, qc7, qc8, qc9, qda, qdb, qdc, qde, qdf, qdg, qdh, qky, qkx, qkz, qjb, qjk, qjm, qgx, qak, qku, nI, qdt, qdr, Bool.not_true, Bool.not_false, Bool.and_true, Bool.true_and, Bool.and_false, Bool.false_and, Bool.or_true, Bool.true_or, Bool.or_false, Bool.false_or, beq_self_eq_true, dTT, dFF, dT, dF, bigI, big0, qja, qk8, qk9, List.length_set, List.length_replicate, Int.toNat_natCast, qcz, qc0, imax, imin, qb8]
      rw [qik k hk fu z z' l hl n (i + 1) _ (by omega) (by simp [ho]) (by omega)]
      exact congrArg (fun x => some [D.arr true z' (.r3 x)]) (qki l o i zz3 h ho)
    · simp (disch := omega) only [qai, nth0, nth1, nth2, nth3, bit, qc1, qc2, qdd, qdi, qdj, qdk, qdl, qdm, qdn, qdo, qc3, qc4, qc5, qc6, qc7, qc8, qc9, qda, qdb, qdc, qde, qdf, qdg, qdh, qky, qkx, qkz, qjb, qjk, qjm, qgx, qak, qku, nI, qdt, qdr, Bool.not_true, Bool.not_false, Bool.and_true, Bool.true_and, Bool.and_false, Bool.false_and, Bool.or_true, Bool.true_or, Bool.or_false, Bool.false_or, beq_self_eq_true, dTT, dFF, dT, dF, bigI, big0, qja, qk8, qk9, List.length_set, List.length_replicate, Int.toNat_natCast, qcz, qc0, imax, imin]
      have hil : i = l.length := by omega
      rw [hil, List.drop_length, List.append_nil, List.take_of_length_le (by omega)]
theorem qb9 (k : Nat) (hk : 2000000 ≤ k) (az : Bool) (a : List (Int × Int × Int)) (hl : (a.length : Int) ≤ 1048576) : go (k + 2) laws_toIdS [(.arr false (az) (.r3 (a)))] = some [.arr true false (.r3 a)] := by
  rw [qfm]
  simp (disch := omega) only [qai, nth0, nth1, nth2, nth3, bit, qc1, qc2, qdd, qdi, qdj, qdk, qdl, qdm, qdn, qdo, qc3, qc4, qc5, qc6, qc7, qc8, qc9, qda, qdb, qdc, qde, qdf, qdg, qdh, qky, qkx, qkz, qjb, qjk, qjm, qgx, qak, qku, nI, qdt, qdr, Bool.not_true, Bool.not_false, Bool.and_true, Bool.true_and, Bool.and_false, Bool.false_and, Bool.or_true, Bool.true_or, Bool.or_false, Bool.false_or, beq_self_eq_true, dTT, dFF, dT, dF, bigI, big0, qja, qk8, qk9, List.length_set, List.length_replicate, Int.toNat_natCast, qcz, qc0, imax, imin]
  refine Eq.trans (qik k hk [] az false a hl _ 0 (List.replicate a.length zz3) (by omega) (by simp) (by omega)) ?_
  simp
theorem qcc (k : Nat) (hk : 2000000 ≤ k) (a0 : Int) (a1z : Bool) (a1 : List (Int × Int × Int)) (hl : (a1.length : Int) ≤ 1048576) : go (k + 3) laws_toMesh [(.agg [(.int .i64 (a0)), (.arr false (a1z) (.r3 (a1)))])] = some [.agg [.int .i64 a0, .arr true false (.r3 a1)]] := by
  rw [qfp]
  simp (disch := omega) only [qai, nth0, nth1, nth2, nth3, bit, qc1, qc2, qdd, qdi, qdj, qdk, qdl, qdm, qdn, qdo, qc3, qc4, qc5, qc6, qc7, qc8, qc9, qda, qdb, qdc, qde, qdf, qdg, qdh, qky, qkx, qkz, qjb, qjk, qjm, qgx, qak, qku, nI, qdt, qdr, Bool.not_true, Bool.not_false, Bool.and_true, Bool.true_and, Bool.and_false, Bool.false_and, Bool.or_true, Bool.true_or, Bool.or_false, Bool.false_or, beq_self_eq_true, dTT, dFF, dT, dF, bigI, big0, qja, qk8, qk9, List.length_set, List.length_replicate, Int.toNat_natCast, qcz, qc0, imax, imin, qb9]
theorem qb2 (k : Nat) (hk : 2000000 ≤ k) (az : Bool) (a : List (Int × Int × Int)) (b : Int) (hl : (a.length : Int) ≤ 9223372036854775807) (hb : 0 ≤ b) (hb' : b ≤ 1048576) : go (k + 1) laws_szIdS [(.arr false (az) (.r3 (a))), (.int .i64 (b))] = some [.int .i64 (if (a.length : Int) ≤ b then b - a.length else -1)] := by
  rw [qff]
  by_cases h : (a.length : Int) ≤ b
  · simp (disch := omega) only [qai, nth0, nth1, nth2, nth3, bit, qc1, qc2, qdd, qdi, qdj, qdk, qdl, qdm, qdn, qdo, qc3, qc4, qc5, qc6, qc7, qc8, qc9, qda, qdb, qdc, qde, qdf, qdg, qdh, qky, qkx, qkz, qjb, qjk, qjm, qgx, qak, qku, nI, qdt, qdr, Bool.not_true, Bool.not_false, Bool.and_true, Bool.true_and, Bool.and_false, Bool.false_and, Bool.or_true, Bool.true_or, Bool.or_false, Bool.false_or, beq_self_eq_true, dTT, dFF, dT, dF, bigI, big0, qja, qk8, qk9, List.length_set, List.length_replicate, Int.toNat_natCast, qcz, qc0, imax, imin, if_pos h]
  · simp (disch := omega) only [qai, nth0, nth1, nth2, nth3, bit, qc1, qc2, qdd, qdi, qdj, qdk, qdl, qdm, qdn, qdo, qc3, qc4, qc5, qc6, qc7, qc8, qc9, qda, qdb, qdc, qde, qdf, qdg, qdh, qky, qkx, qkz, qjb, qjk, qjm, qgx, qak, qku, nI, qdt, qdr, Bool.not_true, Bool.not_false, Bool.and_true, Bool.true_and, Bool.and_false, Bool.false_and, Bool.or_true, Bool.true_or, Bool.or_false, Bool.false_or, beq_self_eq_true, dTT, dFF, dT, dF, bigI, big0, qja, qk8, qk9, List.length_set, List.length_replicate, Int.toNat_natCast, qcz, qc0, imax, imin, if_neg h]
theorem qb4 (k : Nat) (hk : 2000000 ≤ k) (a0 : Int) (a1z : Bool) (a1 : List (Int × Int × Int)) (b : Int) (hl : (a1.length : Int) ≤ 9223372036854775807) (hb : 0 ≤ b) (hb' : b ≤ 1048576) : go (k + 2) laws_szMesh [(.agg [(.int .i64 (a0)), (.arr false (a1z) (.r3 (a1)))]), (.int .i64 (b))] = some [.int .i64 (if (a1.length : Int) ≤ b then b - a1.length else -1)] := by
  rw [qfh]
  simp (disch := omega) only [qai, nth0, nth1, nth2, nth3, bit, qc1, qc2, qdd, qdi, qdj, qdk, qdl, qdm, qdn, qdo, qc3, qc4, qc5, qc6, qc7, qc8, qc9, qda, qdb, qdc, qde, qdf, qdg, qdh, qky, qkx, qkz, qjb, qjk, qjm, qgx, qak, qku, nI, qdt, qdr, Bool.not_true, Bool.not_false, Bool.and_true, Bool.true_and, Bool.and_false, Bool.false_and, Bool.or_true, Bool.true_or, Bool.or_false, Bool.false_or, beq_self_eq_true, dTT, dFF, dT, dF, bigI, big0, qja, qk8, qk9, List.length_set, List.length_replicate, Int.toNat_natCast, qcz, qc0, imax, imin, qb2]
  by_cases h : (a1.length : Int) ≤ b
  · simp (disch := omega) only [qai, nth0, nth1, nth2, nth3, bit, qc1, qc2, qdd, qdi, qdj, qdk, qdl, qdm, qdn, qdo, qc3, qc4, qc5, qc6, qc7, qc8, qc9, qda, qdb, qdc, qde, qdf, qdg, qdh, qky, qkx, qkz, qjb, qjk, qjm, qgx, qak, qku, nI, qdt, qdr, Bool.not_true, Bool.not_false, Bool.and_true, Bool.true_and, Bool.and_false, Bool.false_and, Bool.or_true, Bool.true_or, Bool.or_false, Bool.false_or, beq_self_eq_true, dTT, dFF, dT, dF, bigI, big0, qja, qk8, qk9, List.length_set, List.length_replicate, Int.toNat_natCast, qcz, qc0, imax, imin, if_pos h]
  · simp (disch := omega) only [qai, nth0, nth1, nth2, nth3, bit, qc1, qc2, qdd, qdi, qdj, qdk, qdl, qdm, qdn, qdo, qc3, qc4, qc5, qc6, qc7, qc8, qc9, qda, qdb, qdc, qde, qdf, qdg, qdh, qky, qkx, qkz, qjb, qjk, qjm, qgx, qak, qku, nI, qdt, qdr, Bool.not_true, Bool.not_false, Bool.and_true, Bool.true_and, Bool.and_false, Bool.false_and, Bool.or_true, Bool.true_or, Bool.or_false, Bool.false_or, beq_self_eq_true, dTT, dFF, dT, dF, bigI, big0, qja, qk8, qk9, List.length_set, List.length_replicate, Int.toNat_natCast, qcz, qc0, imax, imin, if_neg h]
theorem qbl (k : Nat) (hk : 2000000 ≤ k) (a b c : Int) : go (k + 1) laws_eqId [.agg [.int .i64 a, .int .i64 b, .int .i64 c], .agg [.int .i64 a, .int .i64 b, .int .i64 c]] = some [.bool true] := by
  rw [qey]; simp
theorem qig (k : Nat) (hk : 2000000 ≤ k) (fu : List (Nat × Nat)) (z z' : Bool) (l : List Cell) (hl : (l.length : Int) ≤ 1048576) : ∀ (n i : Nat), i ≤ l.length → l.length - i < n →
    lp (k + 1) laws_eqIdS [] fu 4 (n) (qjv (i : Int) z l z' l) = some [.bool true]
  | 0, i, hi, hn => by omega
  | n + 1, i, hi, hn => by
    rw [qhi]
    by_cases h : i < l.length
    · simp (disch := omega) only [qai, nth0, nth1, nth2, nth3, bit, qc1, qc2, qdd, qdi, qdj, qdk, qdl, qdm, qdn, qdo, qc3, qc4, qc5, qc6, qc7, qc8, qc9, qda, qdb, qdc, qde, qdf, qdg, qdh, qky, qkx, qkz, qjb, qjk, qjm, qgx, qak, qku, nI, qdt, qdr, Bool.not_true, Bool.not_false, Bool.and_true, Bool.true_and, Bool.and_false, Bool.false_and, Bool.or_true, Bool.true_or, Bool.or_false, Bool.false_or, beq_self_eq_true, dTT, dFF, dT, dF, bigI, big0, qja, qk8, qk9, List.length_set, List.length_replicate, Int.toNat_natCast, qcz, qc0, imax, imin, qbl]
      exact qig k hk fu z z' l hl n (i + 1) (by omega) (by omega)
    · simp (disch := omega) only [qai, nth0, nth1, nth2, nth3, bit, qc1, qc2, qdd, qdi, qdj, qdk, qdl, qdm, qdn, qdo, qc3, qc4, qc5, qc6, qc7, qc8, qc9, qda, qdb, qdc, qde, qdf, qdg, qdh, qky, qkx, qkz, qjb, qjk, qjm, qgx, qak, qku, nI, qdt, qdr, Bool.not_true, Bool.not_false, Bool.and_true, Bool.true_and, Bool.and_false, Bool.false_and, Bool.or_true, Bool.true_or, Bool.or_false, Bool.false_or, beq_self_eq_true, dTT, dFF, dT, dF, bigI, big0, qja, qk8, qk9, List.length_set, List.length_replicate, Int.toNat_natCast, qcz, qc0, imax, imin]
theorem qbm (k : Nat) (hk : 2000000 ≤ k) (z z' : Bool) (l : List Cell) (hl : (l.length : Int) ≤ 1048576) : go (k + 2) laws_eqIdS [.arr false z (.r3 l), .arr false z' (.r3 l)] = some [.bool true] := by
  rw [qez]
  simp (disch := omega) only [qai, nth0, nth1, nth2, nth3, bit, qc1, qc2, qdd, qdi, qdj, qdk, qdl, qdm, qdn, qdo, qc3, qc4, qc5, qc6, qc7, qc8, qc9, qda, qdb, qdc, qde, qdf, qdg, qdh, qky, qkx, qkz, qjb, qjk, qjm, qgx, qak, qku, nI, qdt, qdr, Bool.not_true, Bool.not_false, Bool.and_true, Bool.true_and, Bool.and_false, Bool.false_and, Bool.or_true, Bool.true_or, Bool.or_false, Bool.false_or, beq_self_eq_true, dTT, dFF, dT, dF, bigI, big0, qja, qk8, qk9, List.length_set, List.length_replicate, Int.toNat_natCast, qcz, qc0, imax, imin]
  exact qig k hk [] z z' l hl _ 0 (by omega) (by omega)
theorem qbp (k : Nat) (hk : 2000000 ≤ k) (roots : Int) (z z' : Bool) (l : List Cell) (hl : (l.length : Int) ≤ 1048576) : go (k + 3) laws_eqMesh [.agg [.int .i64 roots, .arr false z (.r3 l)], .agg [.int .i64 roots, .arr false z' (.r3 l)]] = some [.bool true] := by
  rw [qe2]
  simp (disch := omega) only [qai, nth0, nth1, nth2, nth3, bit, qc1, qc2, qdd, qdi, qdj, qdk, qdl, qdm, qdn, qdo, qc3, qc4, qc5, qc6, qc7, qc8, qc9, qda, qdb, qdc, qde, qdf, qdg, qdh, qky, qkx, qkz, qjb, qjk, qjm, qgx, qak, qku, nI, qdt, qdr, Bool.not_true, Bool.not_false, Bool.and_true, Bool.true_and, Bool.and_false, Bool.false_and, Bool.or_true, Bool.true_or, Bool.or_false, Bool.false_or, beq_self_eq_true, dTT, dFF, dT, dF, bigI, big0, qja, qk8, qk9, List.length_set, List.length_replicate, Int.toNat_natCast, qcz, qc0, imax, imin, qbm]
theorem qil (k : Nat) (hk : 2000000 ≤ k) (fu : List (Nat × Nat)) (z z' : Bool) (l : List Int) (hl : (l.length : Int) ≤ 1048576) : ∀ (n i : Nat) (o : List Int), i ≤ l.length → o.length = l.length → l.length - i < n →
    lp k laws_toIntS [] fu 3 (n) (qj4 (i : Int) z l z' o) = some [.arr true z' (.ints .i64 (o.take i ++ l.drop i))]
  | 0, i, o, hi, ho, hn => by omega
  | n + 1, i, o, hi, ho, hn => by
    rw [qhr]
    by_cases h : i < l.length
    · simp (disch := omega) only [qai, nth0, nth1, nth2, nth3, bit, qc1, qc2, qdd, qdi, qdj, qdk, qdl, qdm, qdn, qdo, qc3, qc4, qc5, qc6, qc7, qc8, qc9, qda, qdb, qdc, qde, qdf, qdg, qdh, qky, qkx, qkz, qjb, qjk, qjm, qgx, qak, qku, nI, qdt, qdr, Bool.not_true, Bool.not_false, Bool.and_true, Bool.true_and, Bool.and_false, Bool.false_and, Bool.or_true, Bool.true_or, Bool.or_false, Bool.false_or, beq_self_eq_true, dTT, dFF, dT, dF, bigI, big0, qja, qk8, qk9, List.length_set, List.length_replicate, Int.toNat_natCast, qcz, qc0, imax, imin]
      rw [qil k hk fu z z' l hl n (i + 1) _ (by omega) (by simp [ho]) (by omega)]
      exact congrArg (fun x => some [D.arr true z' (.ints .i64 x)]) (qki l o i 0 h ho)
    · simp (disch := omega) only [qai, nth0, nth1, nth2, nth3, bit, qc1, qc2, qdd, qdi, qdj, qdk, qdl, qdm, qdn, qdo, qc3, qc4, qc5, qc6, qc7, qc8, qc9, qda, qdb, qdc, qde, qdf, qdg, qdh, qky, qkx, qkz, qjb, qjk, qjm, qgx, qak, qku, nI, qdt, qdr, Bool.not_true, Bool.not_false, Bool.and_true, Bool.true_and, Bool.and_false, Bool.false_and, Bool.or_true, Bool.true_or, Bool.or_false, Bool.false_or, beq_self_eq_true, dTT, dFF, dT, dF, bigI, big0, qja, qk8, qk9, List.length_set, List.length_replicate, Int.toNat_natCast, qcz, qc0, imax, imin]
      have hil : i = l.length := by omega
      rw [hil, List.drop_length, List.append_nil, List.take_of_length_le (by omega)]
theorem qca (k : Nat) (hk : 2000000 ≤ k) (az : Bool) (a : List Int) (hl : (a.length : Int) ≤ 1048576) : go (k + 1) laws_toIntS [(.arr false (az) (.ints .i64 (a)))] = some [.arr true false (.ints .i64 a)] := by
  rw [qfn]
  simp (disch := omega) only [qai, nth0, nth1, nth2, nth3, bit, qc1, qc2, qdd, qdi, qdj, qdk, qdl, qdm, qdn, qdo, qc3, qc4, qc5, qc6, qc7, qc8, qc9, qda, qdb, qdc, qde, qdf, qdg, qdh, qky, qkx, qkz, qjb, qjk, qjm, qgx, qak, qku, nI, qdt, qdr, Bool.not_true, Bool.not_false, Bool.and_true, Bool.true_and, Bool.and_false, Bool.false_and, Bool.or_true, Bool.true_or, Bool.or_false, Bool.false_or, beq_self_eq_true, dTT, dFF, dT, dF, bigI, big0, qja, qk8, qk9, List.length_set, List.length_replicate, Int.toNat_natCast, qcz, qc0, imax, imin]
  refine Eq.trans (qil k hk [] az false a hl _ 0 (List.replicate a.length 0) (by omega) (by simp) (by omega)) ?_
  simp
theorem qb3 (k : Nat) (hk : 2000000 ≤ k) (az : Bool) (a : List Int) (b : Int) (hl : (a.length : Int) ≤ 9223372036854775807) (hb : 0 ≤ b) (hb' : b ≤ 1048576) : go (k + 1) laws_szIntS [(.arr false (az) (.ints .i64 (a))), (.int .i64 (b))] = some [.int .i64 (if (a.length : Int) ≤ b then b - a.length else -1)] := by
  rw [qfg]
  by_cases h : (a.length : Int) ≤ b
  · simp (disch := omega) only [qai, nth0, nth1, nth2, nth3, bit, qc1, qc2, qdd, qdi, qdj, qdk, qdl, qdm, qdn, qdo, qc3, qc4, qc5, qc6, qc7, qc8, qc9, qda, qdb, qdc, qde, qdf, qdg, qdh, qky, qkx, qkz, qjb, qjk, qjm, qgx, qak, qku, nI, qdt, qdr, Bool.not_true, Bool.not_false, Bool.and_true, Bool.true_and, Bool.and_false, Bool.false_and, Bool.or_true, Bool.true_or, Bool.or_false, Bool.false_or, beq_self_eq_true, dTT, dFF, dT, dF, bigI, big0, qja, qk8, qk9, List.length_set, List.length_replicate, Int.toNat_natCast, qcz, qc0, imax, imin, if_pos h]
  · simp (disch := omega) only [qai, nth0, nth1, nth2, nth3, bit, qc1, qc2, qdd, qdi, qdj, qdk, qdl, qdm, qdn, qdo, qc3, qc4, qc5, qc6, qc7, qc8, qc9, qda, qdb, qdc, qde, qdf, qdg, qdh, qky, qkx, qkz, qjb, qjk, qjm, qgx, qak, qku, nI, qdt, qdr, Bool.not_true, Bool.not_false, Bool.and_true, Bool.true_and, Bool.and_false, Bool.false_and, Bool.or_true, Bool.true_or, Bool.or_false, Bool.false_or, beq_self_eq_true, dTT, dFF, dT, dF, bigI, big0, qja, qk8, qk9, List.length_set, List.length_replicate, Int.toNat_natCast, qcz, qc0, imax, imin, if_neg h]
theorem qih (k : Nat) (hk : 2000000 ≤ k) (fu : List (Nat × Nat)) (z z' : Bool) (l : List Int) (hl : (l.length : Int) ≤ 1048576) : ∀ (n i : Nat), i ≤ l.length → l.length - i < n →
    lp k laws_eqIntS [] fu 4 (n) (qjw (i : Int) z l z' l) = some [.bool true]
  | 0, i, hi, hn => by omega
  | n + 1, i, hi, hn => by
    rw [qhj]
    by_cases h : i < l.length
    · simp (disch := omega) only [qai, nth0, nth1, nth2, nth3, bit, qc1, qc2, qdd, qdi, qdj, qdk, qdl, qdm, qdn, qdo, qc3, qc4, qc5, qc6, qc7, qc8, qc9, qda, qdb, qdc, qde, qdf, qdg, qdh, qky, qkx, qkz, qjb, qjk, qjm, qgx, qak, qku, nI, qdt, qdr, Bool.not_true, Bool.not_false, Bool.and_true, Bool.true_and, Bool.and_false, Bool.false_and, Bool.or_true, Bool.true_or, Bool.or_false, Bool.false_or, beq_self_eq_true, dTT, dFF, dT, dF, bigI, big0, qja, qk8, qk9, List.length_set, List.length_replicate, Int.toNat_natCast, qcz, qc0, imax, imin]
      exact qih k hk fu z z' l hl n (i + 1) (by omega) (by omega)
    · simp (disch := omega) only [qai, nth0, nth1, nth2, nth3, bit, qc1, qc2, qdd, qdi, qdj, qdk, qdl, qdm, qdn, qdo, qc3, qc4, qc5, qc6, qc7, qc8, qc9, qda, qdb, qdc, qde, qdf, qdg, qdh, qky, qkx, qkz, qjb, qjk, qjm, qgx, qak, qku, nI, qdt, qdr, Bool.not_true, Bool.not_false, Bool.and_true, Bool.true_and, Bool.and_false, Bool.false_and, Bool.or_true, Bool.true_or, Bool.or_false, Bool.false_or, beq_self_eq_true, dTT, dFF, dT, dF, bigI, big0, qja, qk8, qk9, List.length_set, List.length_replicate, Int.toNat_natCast, qcz, qc0, imax, imin]
theorem qbn (k : Nat) (hk : 2000000 ≤ k) (z z' : Bool) (l : List Int) (hl : (l.length : Int) ≤ 1048576) : go (k + 1) laws_eqIntS [.arr false z (.ints .i64 l), .arr false z' (.ints .i64 l)] = some [.bool true] := by
  rw [qe0]
  simp (disch := omega) only [qai, nth0, nth1, nth2, nth3, bit, qc1, qc2, qdd, qdi, qdj, qdk, qdl, qdm, qdn, qdo, qc3, qc4, qc5, qc6, qc7, qc8, qc9, qda, qdb, qdc, qde, qdf, qdg, qdh, qky, qkx, qkz, qjb, qjk, qjm, qgx, qak, qku, nI, qdt, qdr, Bool.not_true, Bool.not_false, Bool.and_true, Bool.true_and, Bool.and_false, Bool.false_and, Bool.or_true, Bool.true_or, Bool.or_false, Bool.false_or, beq_self_eq_true, dTT, dFF, dT, dF, bigI, big0, qja, qk8, qk9, List.length_set, List.length_replicate, Int.toNat_natCast, qcz, qc0, imax, imin]
  exact qih k hk [] z z' l hl _ 0 (by omega) (by omega)
def marks (b : Int) : Nat → List Int
  | 0 => []
  | n + 1 => b :: marks (b + 1) n
theorem qij (k : Nat) (hk : 2000000 ≤ k) (fu : List (Nat × Nat)) (az : Bool) (a : List Int) (z : Bool) (L : Nat) (hl : (L : Int) ≤ 1048576) : ∀ (n i : Nat) (l : List Int) (b : Int), l.length = L → i ≤ L → 0 ≤ b → b ≤ 8796093022208 + i → L - i < n →
    lp k laws_markIntS [(.arr true (az) (.ints .i64 (a)))] fu 2 (n) (qj0 b (i : Int) z l) = some [.int .i64 (b + (L - i : Nat)), .arr true z (.ints .i64 (l.take i ++ marks b (L - i)))]
  | 0, i, l, b, hL, hi, h0, hb, hn => by omega
  | n + 1, i, l, b, hL, hi, h0, hb, hn => by
    rw [qhn]
    by_cases h : i < L
    · simp (disch := omega) only [qai, nth0, nth1, nth2, nth3, bit, qc1, qc2, qdd, qdi, qdj, qdk, qdl, qdm, qdn, qdo, qc3, qc4, qc5, qc6, qc7, qc8, qc9, qda, qdb, qdc, qde, qdf, qdg, qdh, qky, qkx, qkz, qjb, qjk, qjm, qgx, qak, qku, nI, qdt, qdr, Bool.not_true, Bool.not_false, Bool.and_true, Bool.true_and, Bool.and_false, Bool.false_and, Bool.or_true, Bool.true_or, Bool.or_false, Bool.false_or, beq_self_eq_true, dTT, dFF, dT, dF, bigI, big0, qja, qk8, qk9, List.length_set, List.length_replicate, Int.toNat_natCast, qcz, qc0, imax, imin]
      rw [qij k hk fu az a z L hl n (i + 1) (l.set i b) (b + 1) (by simp [hL]) (by omega) (by omega) (by omega) (by omega)]
      rw [qkg l l i b _ (by omega), show L - i = (L - (i + 1)) + 1 by omega]
      simp only [marks]
      rw [show b + 1 + ((L - (i + 1) : Nat) : Int) = b + ((L - (i + 1) + 1 : Nat) : Int) by omega]
    · simp (disch := omega) only [qai, nth0, nth1, nth2, nth3, bit, qc1, qc2, qdd, qdi, qdj, qdk, qdl, qdm, qdn, qdo, qc3, qc4, qc5, qc6, qc7, qc8, qc9, qda, qdb, qdc, qde, qdf, qdg, qdh, qky, qkx, qkz, qjb, qjk, qjm, qgx, qak, qku, nI, qdt, qdr, Bool.not_true, Bool.not_false, Bool.and_true, Bool.true_and, Bool.and_false, Bool.false_and, Bool.or_true, Bool.true_or, Bool.or_false, Bool.false_or, beq_self_eq_true, dTT, dFF, dT, dF, bigI, big0, qja, qk8, qk9, List.length_set, List.length_replicate, Int.toNat_natCast, qcz, qc0, imax, imin]
      rw [show L - i = 0 by omega]
      simp only [marks, List.append_nil]
      rw [List.take_of_length_le (by omega)]
      simp
theorem qbw (k : Nat) (hk : 2000000 ≤ k) (az : Bool) (a : List Int) (b : Int) (hl : (a.length : Int) ≤ 1048576) (h0 : 0 ≤ b) (hb : b ≤ 8796093022208) : go (k + 1) laws_markIntS [(.arr true (az) (.ints .i64 (a))), (.int .i64 (b))] = some [.int .i64 (b + a.length), .arr true az (.ints .i64 (marks b a.length))] := by
  rw [qe9]
  have e := qij k hk [] az a az a.length hl k 0 a b rfl (by omega) h0 (by omega) (by omega)
  simpa using e
end Go.Proofs.YtjfjniebmdafeaaDoor
end
section
namespace Go.Proofs.YtjfjniebmdafeaaDoor
open Go.Ev
theorem qce (k : Nat) (hk : 2000000 ≤ k) (a0 : Int) (a1z : Bool) (a1 : List (Int × Int × Int)) (a2z : Bool) (a2 : List Int) (a3z : Bool) (a3 : List Int) (a4z : Bool) (a4 : List Int) (h1 : (a1.length : Int) ≤ 1048576) (h2 : (a2.length : Int) ≤ 1048576) (h3 : (a3.length : Int) ≤ 1048576) (h4 : (a4.length : Int) ≤ 1048576) :
    go (k + 4) laws_toState [(.agg [(.int .i64 (a0)), (.arr false (a1z) (.r3 (a1))), (.arr false (a2z) (.ints .i64 (a2))), (.arr false (a3z) (.ints .i64 (a3))), (.arr false (a4z) (.ints .i64 (a4)))])] = some [.agg [.int .i64 a0, .arr true false (.r3 a1), .arr true false (.ints .i64 a2), .arr true false (.ints .i64 a3), .arr true false (.ints .i64 a4)]] := by
  rw [qfr]
  simp (disch := omega) only [qai, nth0, nth1, nth2, nth3, bit, qc1, qc2, qdd, qdi, qdj, qdk, qdl, qdm, qdn, qdo, qc3, qc4, qc5, qc6, qc7, qc8, qc9, qda, qdb, qdc, qde, qdf, qdg, qdh, qky, qkx, qkz, qjb, qjk, qjm, qgx, qak, qku, nI, qdt, qdr, Bool.not_true, Bool.not_false, Bool.and_true, Bool.true_and, Bool.and_false, Bool.false_and, Bool.or_true, Bool.true_or, Bool.or_false, Bool.false_or, beq_self_eq_true, dTT, dFF, dT, dF, bigI, big0, qja, qk8, qk9, List.length_set, List.length_replicate, Int.toNat_natCast, qcz, qc0, imax, imin, qcc, qca]
theorem qb5 (k : Nat) (hk : 2000000 ≤ k) (a0 : Int) (a1z : Bool) (a1 : List (Int × Int × Int)) (a2z : Bool) (a2 : List Int) (a3z : Bool) (a3 : List Int) (a4z : Bool) (a4 : List Int) (b : Int) (h1 : (a1.length : Int) ≤ 9223372036854775807) (h2 : (a2.length : Int) ≤ 9223372036854775807) (h3 : (a3.length : Int) ≤ 9223372036854775807) (h4 : (a4.length : Int) ≤ 9223372036854775807) (hb : 0 ≤ b) (hb' : b ≤ 1048576) :
    go (k + 3) laws_szState [(.agg [(.int .i64 (a0)), (.arr false (a1z) (.r3 (a1))), (.arr false (a2z) (.ints .i64 (a2))), (.arr false (a3z) (.ints .i64 (a3))), (.arr false (a4z) (.ints .i64 (a4)))]), (.int .i64 (b))] = some [.int .i64 (if (a1.length : Int) + a2.length + a3.length + a4.length ≤ b then b - a1.length - a2.length - a3.length - a4.length else -1)] := by
  rw [qfi]
  by_cases g1 : (a1.length : Int) ≤ b
  case neg => rw [if_neg (c := (a1.length : Int) + a2.length + a3.length + a4.length ≤ b) (by omega)]; simp (disch := omega) only [qai, nth0, nth1, nth2, nth3, bit, qc1, qc2, qdd, qdi, qdj, qdk, qdl, qdm, qdn, qdo, qc3, qc4, qc5, qc6, qc7, qc8, qc9, qda, qdb, qdc, qde, qdf, qdg, qdh, qky, qkx, qkz, qjb, qjk, qjm, qgx, qak, qku, nI, qdt, qdr, Bool.not_true, Bool.not_false, Bool.and_true, Bool.true_and, Bool.and_false, Bool.false_and, Bool.or_true, Bool.true_or, Bool.or_false, Bool.false_or, beq_self_eq_true, dTT, dFF, dT, dF, bigI, big0, qja, qk8, qk9, List.length_set, List.length_replicate, Int.toNat_natCast, qcz, qc0, imax, imin, qb4, if_neg g1]
  by_cases g2 : (a2.length : Int) ≤ b - a1.length
  case neg => rw [if_neg (c := (a1.length : Int) + a2.length + a3.length + a4.length ≤ b) (by omega)]; simp (disch := omega) only [qai, nth0, nth1, nth2, nth3, bit, qc1, qc2, qdd, qdi, qdj, qdk, qdl, qdm, qdn, qdo, qc3, qc4, qc5, qc6, qc7, qc8, qc9, qda, qdb, qdc, qde, qdf, qdg, qdh, qky, qkx, qkz, qjb, qjk, qjm, qgx, qak, qku, nI, qdt, qdr, Bool.not_true, Bool.not_false, Bool.and_true, Bool.true_and, Bool.and_false, Bool.false_and, Bool.or_true, Bool.true_or, Bool.or_false, Bool.false_or, beq_self_eq_true, dTT, dFF, dT, dF, bigI, big0, qja, qk8, qk9, List.length_set, List.length_replicate, Int.toNat_natCast, qcz, qc0, imax, imin, qb4, qb3, if_pos g1, if_neg g2]
  by_cases g3 : (a3.length : Int) ≤ b - a1.length - a2.length
  case neg => rw [if_neg (c := (a1.length : Int) + a2.length + a3.length + a4.length ≤ b) (by omega)]; simp (disch := omega) only [qai, nth0, nth1, nth2, nth3, bit, qc1, qc2, qdd, qdi, qdj, qdk, qdl, qdm, qdn, qdo, qc3, qc4, qc5, qc6, qc7, qc8, qc9, qda, qdb, qdc, qde, qdf, qdg, qdh, qky, qkx, qkz, qjb, qjk, qjm, qgx, qak, qku, nI, qdt, qdr, Bool.not_true, Bool.not_false, Bool.and_true, Bool.true_and, Bool.and_false, Bool.false_and, Bool.or_true, Bool.true_or, Bool.or_false, Bool.false_or, beq_self_eq_true, dTT, dFF, dT, dF, bigI, big0, qja, qk8, qk9, List.length_set, List.length_replicate, Int.toNat_natCast, qcz, qc0, imax, imin, qb4, qb3, if_pos g1, if_pos g2, if_neg g3]
  by_cases g4 : (a4.length : Int) ≤ b - a1.length - a2.length - a3.length
  case neg => rw [if_neg (c := (a1.length : Int) + a2.length + a3.length + a4.length ≤ b) (by omega)]; simp (disch := omega) only [qai, nth0, nth1, nth2, nth3, bit, qc1, qc2, qdd, qdi, qdj, qdk, qdl, qdm, qdn, qdo, qc3, qc4, qc5, qc6, qc7, qc8, qc9, qda, qdb, qdc, qde, qdf, qdg, qdh, qky, qkx, qkz, qjb, qjk, qjm, qgx, qak, qku, nI, qdt, qdr, Bool.not_true, Bool.not_false, Bool.and_true, Bool.true_and, Bool.and_false, Bool.false_and, Bool.or_true, Bool.true_or, Bool.or_false, Bool.false_or, beq_self_eq_true, dTT, dFF, dT, dF, bigI, big0, qja, qk8, qk9, List.length_set, List.length_replicate, Int.toNat_natCast, qcz, qc0, imax, imin, qb4, qb3, if_pos g1, if_pos g2, if_pos g3, if_neg g4]
  rw [if_pos (c := (a1.length : Int) + a2.length + a3.length + a4.length ≤ b) (by omega)]; simp (disch := omega) only [qai, nth0, nth1, nth2, nth3, bit, qc1, qc2, qdd, qdi, qdj, qdk, qdl, qdm, qdn, qdo, qc3, qc4, qc5, qc6, qc7, qc8, qc9, qda, qdb, qdc, qde, qdf, qdg, qdh, qky, qkx, qkz, qjb, qjk, qjm, qgx, qak, qku, nI, qdt, qdr, Bool.not_true, Bool.not_false, Bool.and_true, Bool.true_and, Bool.and_false, Bool.false_and, Bool.or_true, Bool.true_or, Bool.or_false, Bool.false_or, beq_self_eq_true, dTT, dFF, dT, dF, bigI, big0, qja, qk8, qk9, List.length_set, List.length_replicate, Int.toNat_natCast, qcz, qc0, imax, imin, qb4, qb3, if_pos g1, if_pos g2, if_pos g3, if_pos g4]
theorem qbr (k : Nat) (hk : 2000000 ≤ k) (r : Int) (z1 z2 z3 z4 y1 y2 y3 y4 : Bool) (l : List Cell) (m t b : List Int) (h1 : (l.length : Int) ≤ 1048576) (h2 : (m.length : Int) ≤ 1048576) (h3 : (t.length : Int) ≤ 1048576) (h4 : (b.length : Int) ≤ 1048576) :
    go (k + 4) laws_eqState [.agg [.int .i64 r, .arr false z1 (.r3 l), .arr false z2 (.ints .i64 m), .arr false z3 (.ints .i64 t), .arr false z4 (.ints .i64 b)], .agg [.int .i64 r, .arr false y1 (.r3 l), .arr false y2 (.ints .i64 m), .arr false y3 (.ints .i64 t), .arr false y4 (.ints .i64 b)]] = some [.bool true] := by
  rw [qe4]
  simp (disch := omega) only [qai, nth0, nth1, nth2, nth3, bit, qc1, qc2, qdd, qdi, qdj, qdk, qdl, qdm, qdn, qdo, qc3, qc4, qc5, qc6, qc7, qc8, qc9, qda, qdb, qdc, qde, qdf, qdg, qdh, qky, qkx, qkz, qjb, qjk, qjm, qgx, qak, qku, nI, qdt, qdr, Bool.not_true, Bool.not_false, Bool.and_true, Bool.true_and, Bool.and_false, Bool.false_and, Bool.or_true, Bool.true_or, Bool.or_false, Bool.false_or, beq_self_eq_true, dTT, dFF, dT, dF, bigI, big0, qja, qk8, qk9, List.length_set, List.length_replicate, Int.toNat_natCast, qcz, qc0, imax, imin, qbp, qbn]
end Go.Proofs.YtjfjniebmdafeaaDoor
end
section
namespace Go.Proofs.YtjfjniebmdafeaaDoor
open Go.Ev
theorem qb7 (k : Nat) (hk : 2000000 ≤ k) (a0 : Int) (a1 : Int) (a2 : Int) : go (k + 1) laws_toBorder [(.agg [(.int .i64 (a0)), (.int .i64 (a1)), (.int .i64 (a2))])] = some [.agg [.int .i64 a0, .int .i64 a1, .int .i64 a2]] := by
  rw [qfk]
theorem qcb (k : Nat) (hk : 2000000 ≤ k) (a0 : Int) (a1 : Int) (a2 : Int) (a3 : Int) : go (k + 1) laws_toLedger [(.agg [(.int .i64 (a0)), (.int .i64 (a1)), (.int .i64 (a2)), (.int .i64 (a3))])] = some [.agg [.int .i64 a0, .int .i64 a1, .int .i64 a2, .int .i64 a3]] := by
  rw [qfo]
theorem qcd (k : Nat) (hk : 2000000 ≤ k) (a0 : Int) (a1 : Int) (a2 : Int) (a3 : Int) (a4 : Int) (a5 : Int) (a6 : Int) (a7 : Int) (a8 : Int) : go (k + 2) laws_toPlan [(.agg [(.int .i64 (a0)), (.int .i64 (a1)), (.int .i64 (a2)), (.int .i64 (a3)), (.int .i64 (a4)), (.int .i64 (a5)), (.int .i64 (a6)), (.int .i64 (a7)), (.int .i64 (a8))])] = some [.agg [.int .i64 a0, .int .i64 a1, .int .i64 a2, .int .i64 a3, .int .i64 a4, .int .i64 a5, .int .i64 a6, .int .i64 a7, .int .i64 a8]] := by
  rw [qfq]
  simp (disch := omega) only [qai, nth0, nth1, nth2, nth3, bit, qc1, qc2, qdd, qdi, qdj, qdk, qdl, qdm, qdn, qdo, qc3, qc4, qc5, qc6, qc7, qc8, qc9, qda, qdb, qdc, qde, qdf, qdg, qdh, qky, qkx, qkz, qjb, qjk, qjm, qgx, qak, qku, nI, qdt, qdr, Bool.not_true, Bool.not_false, Bool.and_true, Bool.true_and, Bool.and_false, Bool.false_and, Bool.or_true, Bool.true_or, Bool.or_false, Bool.false_or, beq_self_eq_true, dTT, dFF, dT, dF, bigI, big0, qja, qk8, qk9, List.length_set, List.length_replicate, Int.toNat_natCast, qcz, qc0, imax, imin, qb7]
theorem qbk (k : Nat) (hk : 2000000 ≤ k) (a0 : Int) (a1 : Int) (a2 : Int) : go (k + 1) laws_eqBorder [.agg [.int .i64 a0, .int .i64 a1, .int .i64 a2], .agg [.int .i64 a0, .int .i64 a1, .int .i64 a2]] = some [.bool true] := by
  rw [qex]
  simp (disch := omega) only [qai, nth0, nth1, nth2, nth3, bit, qc1, qc2, qdd, qdi, qdj, qdk, qdl, qdm, qdn, qdo, qc3, qc4, qc5, qc6, qc7, qc8, qc9, qda, qdb, qdc, qde, qdf, qdg, qdh, qky, qkx, qkz, qjb, qjk, qjm, qgx, qak, qku, nI, qdt, qdr, Bool.not_true, Bool.not_false, Bool.and_true, Bool.true_and, Bool.and_false, Bool.false_and, Bool.or_true, Bool.true_or, Bool.or_false, Bool.false_or, beq_self_eq_true, dTT, dFF, dT, dF, bigI, big0, qja, qk8, qk9, List.length_set, List.length_replicate, Int.toNat_natCast, qcz, qc0, imax, imin]
theorem qbo (k : Nat) (hk : 2000000 ≤ k) (a0 : Int) (a1 : Int) (a2 : Int) (a3 : Int) : go (k + 1) laws_eqLedger [.agg [.int .i64 a0, .int .i64 a1, .int .i64 a2, .int .i64 a3], .agg [.int .i64 a0, .int .i64 a1, .int .i64 a2, .int .i64 a3]] = some [.bool true] := by
  rw [qe1]
  simp (disch := omega) only [qai, nth0, nth1, nth2, nth3, bit, qc1, qc2, qdd, qdi, qdj, qdk, qdl, qdm, qdn, qdo, qc3, qc4, qc5, qc6, qc7, qc8, qc9, qda, qdb, qdc, qde, qdf, qdg, qdh, qky, qkx, qkz, qjb, qjk, qjm, qgx, qak, qku, nI, qdt, qdr, Bool.not_true, Bool.not_false, Bool.and_true, Bool.true_and, Bool.and_false, Bool.false_and, Bool.or_true, Bool.true_or, Bool.or_false, Bool.false_or, beq_self_eq_true, dTT, dFF, dT, dF, bigI, big0, qja, qk8, qk9, List.length_set, List.length_replicate, Int.toNat_natCast, qcz, qc0, imax, imin]
theorem qbq (k : Nat) (hk : 2000000 ≤ k) (a0 : Int) (a1 : Int) (a2 : Int) (a3 : Int) (a4 : Int) (a5 : Int) (a6 : Int) (a7 : Int) (a8 : Int) : go (k + 2) laws_eqPlan [.agg [.int .i64 a0, .int .i64 a1, .int .i64 a2, .int .i64 a3, .int .i64 a4, .int .i64 a5, .int .i64 a6, .int .i64 a7, .int .i64 a8], .agg [.int .i64 a0, .int .i64 a1, .int .i64 a2, .int .i64 a3, .int .i64 a4, .int .i64 a5, .int .i64 a6, .int .i64 a7, .int .i64 a8]] = some [.bool true] := by
  rw [qe3]
  simp (disch := omega) only [qai, nth0, nth1, nth2, nth3, bit, qc1, qc2, qdd, qdi, qdj, qdk, qdl, qdm, qdn, qdo, qc3, qc4, qc5, qc6, qc7, qc8, qc9, qda, qdb, qdc, qde, qdf, qdg, qdh, qky, qkx, qkz, qjb, qjk, qjm, qgx, qak, qku, nI, qdt, qdr, Bool.not_true, Bool.not_false, Bool.and_true, Bool.true_and, Bool.and_false, Bool.false_and, Bool.or_true, Bool.true_or, Bool.or_false, Bool.false_or, beq_self_eq_true, dTT, dFF, dT, dF, bigI, big0, qja, qk8, qk9, List.length_set, List.length_replicate, Int.toNat_natCast, qcz, qc0, imax, imin, qbk]
theorem qcf (k : Nat) (hk : 2000000 ≤ k) (a0 : Int) (a1z : Bool) (a1 : List (Int × Int × Int)) (a2z : Bool) (a2 : List Int) (a3z : Bool) (a3 : List Int) (a4z : Bool) (a4 : List Int) (a5 : Int) (a6 : Int) (a7 : Int) (a8 : Int) (a9 : Int) (a10 : Int) (a11 : Int) (a12 : Int) (a13 : Int) (a14 : Int) (a15 : Int) (a16 : Int) (a17 : Int) (a18 : Int) (a19 : Int) (a20 : Int) (h1 : (a1.length : Int) ≤ 1048576) (h2 : (a2.length : Int) ≤ 1048576) (h3 : (a3.length : Int) ≤ 1048576) (h4 : (a4.length : Int) ≤ 1048576) : go (k + 5) laws_toWorld [(.agg [(.int .i64 (a0)), (.arr false (a1z) (.r3 (a1))), (.arr false (a2z) (.ints .i64 (a2))), (.arr false (a3z) (.ints .i64 (a3))), (.arr false (a4z) (.ints .i64 (a4))), (.int .i64 (a5)), (.int .i64 (a6)), (.int .i64 (a7)), (.int .i64 (a8)), (.int .i64 (a9)), (.int .i64 (a10)), (.int .i64 (a11)), (.int .i64 (a12)), (.int .i64 (a13)), (.int .i64 (a14)), (.int .i64 (a15)), (.int .i64 (a16)), (.int .i64 (a17)), (.int .i64 (a18)), (.int .i64 (a19)), (.int .i64 (a20))])] = some [.agg [.int .i64 a0, .arr true false (.r3 a1), .arr true false (.ints .i64 a2), .arr true false (.ints .i64 a3), .arr true false (.ints .i64 a4), .int .i64 a5, .int .i64 a6, .int .i64 a7, .int .i64 a8, .int .i64 a9, .int .i64 a10, .int .i64 a11, .int .i64 a12, .int .i64 a13, .int .i64 a14, .int .i64 a15, .int .i64 a16, .int .i64 a17, .int .i64 a18, .int .i64 a19, .int .i64 a20]] := by
  rw [qfs]
  simp (disch := omega) only [qai, nth0, nth1, nth2, nth3, bit, qc1, qc2, qdd, qdi, qdj, qdk, qdl, qdm, qdn, qdo, qc3, qc4, qc5, qc6, qc7, qc8, qc9, qda, qdb, qdc, qde, qdf, qdg, qdh, qky, qkx, qkz, qjb, qjk, qjm, qgx, qak, qku, nI, qdt, qdr, Bool.not_true, Bool.not_false, Bool.and_true, Bool.true_and, Bool.and_false, Bool.false_and, Bool.or_true, Bool.true_or, Bool.or_false, Bool.false_or, beq_self_eq_true, dTT, dFF, dT, dF, bigI, big0, qja, qk8, qk9, List.length_set, List.length_replicate, Int.toNat_natCast, qcz, qc0, imax, imin, qce, qcd, qcb]
theorem qb6 (k : Nat) (hk : 2000000 ≤ k) (a0 : Int) (a1z : Bool) (a1 : List (Int × Int × Int)) (a2z : Bool) (a2 : List Int) (a3z : Bool) (a3 : List Int) (a4z : Bool) (a4 : List Int) (a5 : Int) (a6 : Int) (a7 : Int) (a8 : Int) (a9 : Int) (a10 : Int) (a11 : Int) (a12 : Int) (a13 : Int) (a14 : Int) (a15 : Int) (a16 : Int) (a17 : Int) (a18 : Int) (a19 : Int) (a20 : Int) (b : Int) (h1 : (a1.length : Int) ≤ 9223372036854775807) (h2 : (a2.length : Int) ≤ 9223372036854775807) (h3 : (a3.length : Int) ≤ 9223372036854775807) (h4 : (a4.length : Int) ≤ 9223372036854775807) (hb : 0 ≤ b) (hb' : b ≤ 1048576) :
    go (k + 4) laws_szWorld [(.agg [(.int .i64 (a0)), (.arr false (a1z) (.r3 (a1))), (.arr false (a2z) (.ints .i64 (a2))), (.arr false (a3z) (.ints .i64 (a3))), (.arr false (a4z) (.ints .i64 (a4))), (.int .i64 (a5)), (.int .i64 (a6)), (.int .i64 (a7)), (.int .i64 (a8)), (.int .i64 (a9)), (.int .i64 (a10)), (.int .i64 (a11)), (.int .i64 (a12)), (.int .i64 (a13)), (.int .i64 (a14)), (.int .i64 (a15)), (.int .i64 (a16)), (.int .i64 (a17)), (.int .i64 (a18)), (.int .i64 (a19)), (.int .i64 (a20))]), (.int .i64 (b))] = some [.int .i64 (if (a1.length : Int) + a2.length + a3.length + a4.length ≤ b then b - a1.length - a2.length - a3.length - a4.length else -1)] := by
  rw [qfj]
  by_cases g : (a1.length : Int) + a2.length + a3.length + a4.length ≤ b
  · rw [if_pos g]; simp (disch := omega) only [qai, nth0, nth1, nth2, nth3, bit, qc1, qc2, qdd, qdi, qdj, qdk, qdl, qdm, qdn, qdo, qc3, qc4, qc5, qc6, qc7, qc8, qc9, qda, qdb, qdc, qde, qdf, qdg, qdh, qky, qkx, qkz, qjb, qjk, qjm, qgx, qak, qku, nI, qdt, qdr, Bool.not_true, Bool.not_false, Bool.and_true, Bool.true_and, Bool.and_false, Bool.false_and, Bool.or_true, Bool.true_or, Bool.or_false, Bool.false_or, beq_self_eq_true, dTT, dFF, dT, dF, bigI, big0, qja, qk8, qk9, List.length_set, List.length_replicate, Int.toNat_natCast, qcz, qc0, imax, imin, qb5, if_pos g]
  · rw [if_neg g]; simp (disch := omega) only [qai, nth0, nth1, nth2, nth3, bit, qc1, qc2, qdd, qdi, qdj, qdk, qdl, qdm, qdn, qdo, qc3, qc4, qc5, qc6, qc7, qc8, qc9, qda, qdb, qdc, qde, qdf, qdg, qdh, qky, qkx, qkz, qjb, qjk, qjm, qgx, qak, qku, nI, qdt, qdr, Bool.not_true, Bool.not_false, Bool.and_true, Bool.true_and, Bool.and_false, Bool.false_and, Bool.or_true, Bool.true_or, Bool.or_false, Bool.false_or, beq_self_eq_true, dTT, dFF, dT, dF, bigI, big0, qja, qk8, qk9, List.length_set, List.length_replicate, Int.toNat_natCast, qcz, qc0, imax, imin, qb5, if_neg g]
theorem qbt (k : Nat) (hk : 2000000 ≤ k) (a0 : Int) (z1 z2 z3 z4 y1 y2 y3 y4 : Bool) (a1 : List Cell) (a2 a3 a4 : List Int) (a5 : Int) (a6 : Int) (a7 : Int) (a8 : Int) (a9 : Int) (a10 : Int) (a11 : Int) (a12 : Int) (a13 : Int) (a14 : Int) (a15 : Int) (a16 : Int) (a17 : Int) (a18 : Int) (a19 : Int) (a20 : Int) (h1 : (a1.length : Int) ≤ 1048576) (h2 : (a2.length : Int) ≤ 1048576) (h3 : (a3.length : Int) ≤ 1048576) (h4 : (a4.length : Int) ≤ 1048576) :
    go (k + 5) laws_eqWorld [.agg [.int .i64 a0, .arr false z1 (.r3 a1), .arr false z2 (.ints .i64 a2), .arr false z3 (.ints .i64 a3), .arr false z4 (.ints .i64 a4), .int .i64 a5, .int .i64 a6, .int .i64 a7, .int .i64 a8, .int .i64 a9, .int .i64 a10, .int .i64 a11, .int .i64 a12, .int .i64 a13, .int .i64 a14, .int .i64 a15, .int .i64 a16, .int .i64 a17, .int .i64 a18, .int .i64 a19, .int .i64 a20], .agg [.int .i64 a0, .arr false y1 (.r3 a1), .arr false y2 (.ints .i64 a2), .arr false y3 (.ints .i64 a3), .arr false y4 (.ints .i64 a4), .int .i64 a5, .int .i64 a6, .int .i64 a7, .int .i64 a8, .int .i64 a9, .int .i64 a10, .int .i64 a11, .int .i64 a12, .int .i64 a13, .int .i64 a14, .int .i64 a15, .int .i64 a16, .int .i64 a17, .int .i64 a18, .int .i64 a19, .int .i64 a20]] = some [.bool true] := by
  rw [qe6]
  simp (disch := omega) only [qai, nth0, nth1, nth2, nth3, bit, qc1, qc2, qdd, qdi, qdj, qdk, qdl, qdm, qdn, qdo, qc3, qc4, qc5, qc6, qc7, qc8, qc9, qda, qdb, qdc, qde, qdf, qdg, qdh, qky, qkx, qkz, qjb, qjk, qjm, qgx, qak, qku, nI, qdt, qdr, Bool.not_true, Bool.not_false, Bool.and_true, Bool.true_and, Bool.and_false, Bool.false_and, Bool.or_true, Bool.true_or, Bool.or_false, Bool.false_or, beq_self_eq_true, dTT, dFF, dT, dF, bigI, big0, qja, qk8, qk9, List.length_set, List.length_replicate, Int.toNat_natCast, qcz, qc0, imax, imin, qbr, qbq, qbo]
end Go.Proofs.YtjfjniebmdafeaaDoor
end
section
namespace Go.Proofs.YtjfjniebmdafeaaDoor
open Go.Ev
def qh3 (a b c d : Int) : Bool := inR a 0 1000000000000000 && (inR b 0 1000000000000000 && (inR c 0 1000000000000000 && inR d 0 1000000000000000))
theorem qcy (k : Nat) (hk : 2000000 ≤ k) (a : Int) : go (k + 2) spec_l36Amount [(.int .i64 (a))] = some [.bool (inR a 0 1000000000000000)] := by
  rw [qgd]
  simp (disch := omega) only [qai, nth0, nth1, nth2, nth3, bit, qc1, qc2, qdd, qdi, qdj, qdk, qdl, qdm, qdn, qdo, qc3, qc4, qc5, qc6, qc7, qc8, qc9, qda, qdb, qdc, qde, qdf, qdg, qdh, qky, qkx, qkz, qjb, qjk, qjm, qgx, qak, qku, nI, qdt, qdr, Bool.not_true, Bool.not_false, Bool.and_true, Bool.true_and, Bool.and_false, Bool.false_and, Bool.or_true, Bool.true_or, Bool.or_false, Bool.false_or, beq_self_eq_true, dTT, dFF, dT, dF, bigI, big0, qja, qk8, qk9, List.length_set, List.length_replicate, Int.toNat_natCast, qcz, qc0, imax, imin, qcu]
theorem qbe (k : Nat) (hk : 2000000 ≤ k) (a0 : Int) (a1 : Int) (a2 : Int) (a3 : Int) : go (k + 2) impl_ledgerOk [(.agg [(.int .i64 (a0)), (.int .i64 (a1)), (.int .i64 (a2)), (.int .i64 (a3))])] = some [.bool (qh3 a0 a1 a2 a3)] := by
  rw [qes]
  simp (disch := omega) only [qai, nth0, nth1, nth2, nth3, bit, qc1, qc2, qdd, qdi, qdj, qdk, qdl, qdm, qdn, qdo, qc3, qc4, qc5, qc6, qc7, qc8, qc9, qda, qdb, qdc, qde, qdf, qdg, qdh, qky, qkx, qkz, qjb, qjk, qjm, qgx, qak, qku, nI, qdt, qdr, Bool.not_true, Bool.not_false, Bool.and_true, Bool.true_and, Bool.and_false, Bool.false_and, Bool.or_true, Bool.true_or, Bool.or_false, Bool.false_or, beq_self_eq_true, dTT, dFF, dT, dF, bigI, big0, qja, qk8, qk9, List.length_set, List.length_replicate, Int.toNat_natCast, qcz, qc0, imax, imin, qbi, qdv]
  rfl
def qk6 (a0 : Int) (a1 : List Cell) (a2 a3 a4 : List Int) (b0 b1 b2 b3 b4 b5 b6 b7 b8 s c0 c1 c2 c3 f g : Int) : Bool :=
  stOk a0 a1 a2 a3 a4 && (qji b0 b1 b2 b3 b4 b5 b6 b7 b8 && (inR s 0 100000 && (qh3 c0 c1 c2 c3 && (decide (isum a2 - c0 + c1 = f) && decide (isum a3 - c2 + c3 = g)))))
theorem qgt {a m : Int} (h : inR a 0 m = true) : 0 ≤ a ∧ a ≤ m := by
  simp only [inR, Bool.and_eq_true, decide_eq_true_eq] at h
  omega
theorem qdx (a b : Int) : decide (a = b) = decide (b = a) := decide_eq_decide.2 eq_comm
theorem qct (k : Nat) (hk : 2000000 ≤ k) (a0 : Int) (a1z : Bool) (a1 : List (Int × Int × Int)) (a2z : Bool) (a2 : List Int) (a3z : Bool) (a3 : List Int) (a4z : Bool) (a4 : List Int) (a5 : Int) (a6 : Int) (a7 : Int) (a8 : Int) (a9 : Int) (a10 : Int) (a11 : Int) (a12 : Int) (a13 : Int) (a14 : Int) (a15 : Int) (a16 : Int) (a17 : Int) (a18 : Int) (a19 : Int) (a20 : Int) (h1 : (a1.length : Int) ≤ 1048576) (h4 : (a4.length : Int) ≤ 1048576) :
    go (k + 8) spec_WorldOk [(.agg [(.int .i64 (a0)), (.arr false (a1z) (.r3 (a1))), (.arr false (a2z) (.ints .i64 (a2))), (.arr false (a3z) (.ints .i64 (a3))), (.arr false (a4z) (.ints .i64 (a4))), (.int .i64 (a5)), (.int .i64 (a6)), (.int .i64 (a7)), (.int .i64 (a8)), (.int .i64 (a9)), (.int .i64 (a10)), (.int .i64 (a11)), (.int .i64 (a12)), (.int .i64 (a13)), (.int .i64 (a14)), (.int .i64 (a15)), (.int .i64 (a16)), (.int .i64 (a17)), (.int .i64 (a18)), (.int .i64 (a19)), (.int .i64 (a20))])] = some [.bool (qk6 a0 a1 a2 a3 a4 a5 a6 a7 a8 a9 a10 a11 a12 a13 a14 a15 a16 a17 a18 a19 a20)] := by
  rw [qf7]
  simp (disch := omega) only [qai, nth0, nth1, nth2, nth3, bit, qc1, qc2, qdd, qdi, qdj, qdk, qdl, qdm, qdn, qdo, qc3, qc4, qc5, qc6, qc7, qc8, qc9, qda, qdb, qdc, qde, qdf, qdg, qdh, qky, qkx, qkz, qjb, qjk, qjm, qgx, qak, qku, nI, qdt, qdr, Bool.not_true, Bool.not_false, Bool.and_true, Bool.true_and, Bool.and_false, Bool.false_and, Bool.or_true, Bool.true_or, Bool.or_false, Bool.false_or, beq_self_eq_true, dTT, dFF, dT, dF, bigI, big0, qja, qk8, qk9, List.length_set, List.length_replicate, Int.toNat_natCast, qcz, qc0, imax, imin, qcr, qcp, qcu, qcy]
  simp only [qk6, qh3]
  cases g : stOk a0 a1 a2 a3 a4
  · rfl
  cases g2 : qji a5 a6 a7 a8 a9 a10 a11 a12 a13
  · rfl
  cases g3 : inR a14 0 100000
  · rfl
  cases g4 : inR a15 0 1000000000000000
  · rfl
  cases g5 : inR a16 0 1000000000000000
  · rfl
  cases g6 : inR a17 0 1000000000000000
  · rfl
  cases g7 : inR a18 0 1000000000000000
  · rfl
  have F := stF.1 g
  have := F.len; have := F.ml; have := F.tl; have := F.bl; have := F.rr
  have b4 := qgt g4; have b5 := qgt g5; have b6 := qgt g6; have b7 := qgt g7
  have s1 := qg2 _ F.mmem; have s2 := qg2 _ F.tmem
  simp only [Bool.not_true, qdr, Bool.true_and]
  rw [qcx _ (by omega) _ _ (by omega) F.mmem, qcx _ (by omega) _ _ (by omega) F.tmem]
  simp (disch := omega) only [qai, nth0, nth1, nth2, nth3, bit, qc1, qc2, qdd, qdi, qdj, qdk, qdl, qdm, qdn, qdo, qc3, qc4, qc5, qc6, qc7, qc8, qc9, qda, qdb, qdc, qde, qdf, qdg, qdh, qky, qkx, qkz, qjb, qjk, qjm, qgx, qak, qku, nI, qdt, qdr, Bool.not_true, Bool.not_false, Bool.and_true, Bool.true_and, Bool.and_false, Bool.false_and, Bool.or_true, Bool.true_or, Bool.or_false, Bool.false_or, beq_self_eq_true, dTT, dFF, dT, dF, bigI, big0, qja, qk8, qk9, List.length_set, List.length_replicate, Int.toNat_natCast, qcz, qc0, imax, imin, qdv]
theorem qa3 (k : Nat) (hk : 2000000 ≤ k) (a0 : Int) (a1z : Bool) (a1 : List (Int × Int × Int)) (a2z : Bool) (a2 : List Int) (a3z : Bool) (a3 : List Int) (a4z : Bool) (a4 : List Int) (a5 : Int) (a6 : Int) (a7 : Int) (a8 : Int) (a9 : Int) (a10 : Int) (a11 : Int) (a12 : Int) (a13 : Int) (a14 : Int) (a15 : Int) (a16 : Int) (a17 : Int) (a18 : Int) (a19 : Int) (a20 : Int) (h1 : (a1.length : Int) ≤ 1048576) (h4 : (a4.length : Int) ≤ 1048576) :
    go (k + 9) impl_WorldOk [(.agg [(.int .i64 (a0)), (.arr false (a1z) (.r3 (a1))), (.arr false (a2z) (.ints .i64 (a2))), (.arr false (a3z) (.ints .i64 (a3))), (.arr false (a4z) (.ints .i64 (a4))), (.int .i64 (a5)), (.int .i64 (a6)), (.int .i64 (a7)), (.int .i64 (a8)), (.int .i64 (a9)), (.int .i64 (a10)), (.int .i64 (a11)), (.int .i64 (a12)), (.int .i64 (a13)), (.int .i64 (a14)), (.int .i64 (a15)), (.int .i64 (a16)), (.int .i64 (a17)), (.int .i64 (a18)), (.int .i64 (a19)), (.int .i64 (a20))])] = some [.bool (qk6 a0 a1 a2 a3 a4 a5 a6 a7 a8 a9 a10 a11 a12 a13 a14 a15 a16 a17 a18 a19 a20)] := by
  rw [qej]
  simp (disch := omega) only [qai, nth0, nth1, nth2, nth3, bit, qc1, qc2, qdd, qdi, qdj, qdk, qdl, qdm, qdn, qdo, qc3, qc4, qc5, qc6, qc7, qc8, qc9, qda, qdb, qdc, qde, qdf, qdg, qdh, qky, qkx, qkz, qjb, qjk, qjm, qgx, qak, qku, nI, qdt, qdr, Bool.not_true, Bool.not_false, Bool.and_true, Bool.true_and, Bool.and_false, Bool.false_and, Bool.or_true, Bool.true_or, Bool.or_false, Bool.false_or, beq_self_eq_true, dTT, dFF, dT, dF, bigI, big0, qja, qk8, qk9, List.length_set, List.length_replicate, Int.toNat_natCast, qcz, qc0, imax, imin, qa0, qax, qbi, qbe]
  simp only [qk6]
  cases g : stOk a0 a1 a2 a3 a4
  · rfl
  cases g2 : qji a5 a6 a7 a8 a9 a10 a11 a12 a13
  · rfl
  cases g3 : inR a14 0 100000
  · rfl
  cases g4 : qh3 a15 a16 a17 a18
  · rfl
  have F := stF.1 g
  have := F.len; have := F.ml; have := F.tl; have := F.bl; have := F.rr
  have g4' := g4
  simp only [qh3, Bool.and_eq_true] at g4'
  obtain ⟨i1, i2, i3, i4⟩ := g4'
  have b4 := qgt i1; have b5 := qgt i2; have b6 := qgt i3; have b7 := qgt i4
  have s1 := qg2 _ F.mmem; have s2 := qg2 _ F.tmem
  simp only [qdt, Bool.true_and]
  rw [qbg _ (by omega) _ _ (by omega) F.mmem, qbg _ (by omega) _ _ (by omega) F.tmem]
  simp (disch := omega) only [qai, nth0, nth1, nth2, nth3, bit, qc1, qc2, qdd, qdi, qdj, qdk, qdl, qdm, qdn, qdo, qc3, qc4, qc5, qc6, qc7, qc8, qc9, qda, qdb, qdc, qde, qdf, qdg, qdh, qky, qkx, qkz, qjb, qjk, qjm, qgx, qak, qku, nI, qdt, qdr, Bool.not_true, Bool.not_false, Bool.and_true, Bool.true_and, Bool.and_false, Bool.false_and, Bool.or_true, Bool.true_or, Bool.or_false, Bool.false_or, beq_self_eq_true, dTT, dFF, dT, dF, bigI, big0, qja, qk8, qk9, List.length_set, List.length_replicate, Int.toNat_natCast, qcz, qc0, imax, imin, qdv]
  rw [qdx a19, qdx a20]
end Go.Proofs.YtjfjniebmdafeaaDoor
end
section
namespace Go.Proofs.YtjfjniebmdafeaaDoor
open Go.Ev
set_option maxRecDepth 20000
structure Wd where
  r : Int
  s : S3
  b : List Int
  p : Pl
  k : Int
  ld : Ld
  f : Int
  g : Int
abbrev wdR (w : Wd) : D := .agg [.int .i64 (w.r), .arr false false (.r3 (w.s.1)), .arr false false (.ints .i64 (w.s.2.1)), .arr false false (.ints .i64 (w.s.2.2)), .arr false false (.ints .i64 (w.b)), .int .i64 (w.p.bi), .int .i64 (w.p.bs), .int .i64 (w.p.bo), .int .i64 (w.p.rain), .int .i64 (w.p.loss), .int .i64 (w.p.dec), .int .i64 (w.p.high), .int .i64 (w.p.low), .int .i64 (w.p.every), .int .i64 (w.k), .int .i64 (w.ld.mi), .int .i64 (w.ld.mo), .int .i64 (w.ld.ti), .int .i64 (w.ld.ou), .int .i64 (w.f), .int .i64 (w.g)]
def wdOk (w : Wd) : Bool := qk6 w.r w.s.1 w.s.2.1 w.s.2.2 w.b w.p.bi w.p.bs w.p.bo w.p.rain w.p.loss w.p.dec w.p.high w.p.low w.p.every w.k w.ld.mi w.ld.mo w.ld.ti w.ld.ou w.f w.g
structure Sml (w : Wd) : Prop where
  h1 : (w.s.1.length : Int) ≤ 1048576
  h2 : (w.s.2.1.length : Int) ≤ 1048576
  h3 : (w.s.2.2.length : Int) ≤ 1048576
  h4 : (w.b.length : Int) ≤ 1048576
structure LdB (l : Ld) (B : Int) : Prop where
  mi : 0 ≤ l.mi ∧ l.mi ≤ B
  mo : 0 ≤ l.mo ∧ l.mo ≤ B
  ti : 0 ≤ l.ti ∧ l.ti ≤ B
  ou : 0 ≤ l.ou ∧ l.ou ≤ B
theorem qjh {p : Pl} (h : qji p.bi p.bs p.bo p.rain p.loss p.dec p.high p.low p.every = true) : PlF p := by
  simp only [qji, qal, Bool.and_eq_true, qgu] at h
  exact ⟨by omega, by omega, by omega, by omega, by omega, by omega, by omega, by omega, by omega⟩
structure WdF (w : Wd) : Prop where
  F : StF w.r w.s.1 w.s.2.1 w.s.2.2 w.b
  P : PlF w.p
  k : 0 ≤ w.k ∧ w.k ≤ 100000
  L : LdB w.ld 1000000000000000
  f : isum w.s.2.1 - w.ld.mi + w.ld.mo = w.f
  g : isum w.s.2.2 - w.ld.ti + w.ld.ou = w.g
theorem wdF {w : Wd} (h : wdOk w = true) : WdF w := by
  unfold wdOk qk6 qh3 at h
  simp only [Bool.and_eq_true, decide_eq_true_eq] at h
  obtain ⟨h1, h2, h3, ⟨h4, h5, h6, h7⟩, h8, h9⟩ := h
  exact ⟨stF.1 h1, qjh h2, qgu.1 h3, ⟨qgu.1 h4, qgu.1 h5, qgu.1 h6, qgu.1 h7⟩, h8, h9⟩
end Go.Proofs.YtjfjniebmdafeaaDoor
end
section
namespace Go.Proofs.YtjfjniebmdafeaaDoor
open Go.Ev
set_option maxRecDepth 20000
theorem y1 : ({ data := #[(32 : UInt8)] } : ByteArray) = ba [32] := Eq.trans rfl rfl
theorem y2 : ({ data := #[(114 : UInt8), (117 : UInt8), (110 : UInt8)] } : ByteArray) = ba [114, 117, 110] := Eq.trans rfl rfl
theorem y3 : ({ data := #[(114 : UInt8), (97 : UInt8), (105 : UInt8), (110 : UInt8)] } : ByteArray) = ba [114, 97, 105, 110] := Eq.trans rfl rfl
theorem y4 : ({ data := #[(108 : UInt8), (111 : UInt8), (115 : UInt8), (115 : UInt8)] } : ByteArray) = ba [108, 111, 115, 115] := Eq.trans rfl rfl
theorem y0 : ({ data := #[] } : ByteArray) = ba [] := Eq.trans rfl rfl
end Go.Proofs.YtjfjniebmdafeaaDoor
end
section
namespace Go.Proofs.YtjfjniebmdafeaaDoor
open Go.Ev
def qiy (b : Int) : Nat → List Cell
  | 0 => []
  | n + 1 => (b, b + 1, b + 2) :: qiy (b + 3) n
theorem qkj {α : Type} (l : List α) (i : Nat) (x y : α) : (l.set i x).set i y = l.set i y := List.set_set ..
theorem qgq {α : Type} {l : List α} {i : Nat} (h : i < l.length) (x d : α) : (l.set i x).getD i d = x := by rw [qkf]; simp [h]
theorem qii (k : Nat) (hk : 2000000 ≤ k) (fu : List (Nat × Nat)) (az : Bool) (a : List Cell) (z : Bool) (L : Nat) (hl : (L : Int) ≤ 1048576) : ∀ (n i : Nat) (l : List Cell) (b : Int), l.length = L → i ≤ L → 0 ≤ b → b ≤ 8796093022208 + 3 * i → L - i < n →
    lp k laws_markIdS [(.arr true (az) (.r3 (a)))] fu 2 (n) (qjz b (i : Int) z l) = some [.int .i64 (b + 3 * (L - i : Nat)), .arr true z (.r3 (l.take i ++ qiy b (L - i)))]
  | 0, i, l, b, hL, hi, h0, hb, hn => by omega
  | n + 1, i, l, b, hL, hi, h0, hb, hn => by
    rw [qhm]
    by_cases h : i < L
    · have e := qii k hk fu az a z L hl n (i + 1) (l.set i (b, b + 1, b + 2)) (b + 3) (by simp [hL]) (by omega) (by omega) (by omega) (by omega)
      rw [qkg l l i _ _ (by omega)] at e
      rw [show L - i = (L - (i + 1)) + 1 by omega]
      simp only [qiy]
      simp (disch := omega) only [qai, nth0, nth1, nth2, nth3, bit, qc1, qc2, qdd, qdi, qdj, qdk, qdl, qdm, qdn, qdo, qc3, qc4, qc5, qc6, qc7, qc8, qc9, qda, qdb, qdc, qde, qdf, qdg, qdh, qky, qkx, qkz, qjb, qjk, qjm, qgx, qak, qku, nI, qdt, qdr, Bool.not_true, Bool.not_false, Bool.and_true, Bool.true_and, Bool.and_false, Bool.false_and, Bool.or_true, Bool.true_or, Bool.or_false, Bool.false_or, beq_self_eq_true, dTT, dFF, dT, dF, bigI, big0, qja, qk8, qk9, List.length_set, List.length_replicate, Int.toNat_natCast, qcz, qc0, imax, imin, qkj, qgq, show b + 1 + 1 = b + 2 by omega, show b + 2 + 1 = b + 3 by omega]
      rw [e, show b + 3 + 3 * ((L - (i + 1) : Nat) : Int) = b + 3 * ((L - (i + 1) + 1 : Nat) : Int) by omega]
    · simp (disch := omega) only [qai, nth0, nth1, nth2, nth3, bit, qc1, qc2, qdd, qdi, qdj, qdk, qdl, qdm, qdn, qdo, qc3, qc4, qc5, qc6, qc7, qc8, qc9, qda, qdb, qdc, qde, qdf, qdg, qdh, qky, qkx, qkz, qjb, qjk, qjm, qgx, qak, qku, nI, qdt, qdr, Bool.not_true, Bool.not_false, Bool.and_true, Bool.true_and, Bool.and_false, Bool.false_and, Bool.or_true, Bool.true_or, Bool.or_false, Bool.false_or, beq_self_eq_true, dTT, dFF, dT, dF, bigI, big0, qja, qk8, qk9, List.length_set, List.length_replicate, Int.toNat_natCast, qcz, qc0, imax, imin]
      rw [show L - i = 0 by omega]
      simp only [qiy, List.append_nil]
      rw [List.take_of_length_le (by omega)]
      simp
theorem qbv (k : Nat) (hk : 2000000 ≤ k) (az : Bool) (a : List (Int × Int × Int)) (b : Int) (hl : (a.length : Int) ≤ 1048576) (h0 : 0 ≤ b) (hb : b ≤ 8796093022208) : go (k + 1) laws_markIdS [(.arr true (az) (.r3 (a))), (.int .i64 (b))] = some [.int .i64 (b + 3 * a.length), .arr true az (.r3 (qiy b a.length))] := by
  rw [qe8]
  have e := qii k hk [] az a az a.length hl (k + 0) 0 a b rfl (by omega) h0 (by omega) (by omega)
  simpa using e
theorem qbx (k : Nat) (hk : 2000000 ≤ k) (a0 : Int) (a1z : Bool) (a1 : List (Int × Int × Int)) (b : Int) (hl : (a1.length : Int) ≤ 1048576) (h0 : 0 ≤ b) (hb : b ≤ 8796093022208) : go (k + 2) laws_markMesh [(.agg [(.int .i64 (a0)), (.arr true (a1z) (.r3 (a1)))]), (.int .i64 (b))] = some [.int .i64 (b + 3 * a1.length), .agg [.int .i64 a0, .arr true a1z (.r3 (qiy b a1.length))]] := by
  rw [qfa]
  simp (disch := omega) only [qai, nth0, nth1, nth2, nth3, bit, qc1, qc2, qdd, qdi, qdj, qdk, qdl, qdm, qdn, qdo, qc3, qc4, qc5, qc6, qc7, qc8, qc9, qda, qdb, qdc, qde, qdf, qdg, qdh, qky, qkx, qkz, qjb, qjk, qjm, qgx, qak, qku, nI, qdt, qdr, Bool.not_true, Bool.not_false, Bool.and_true, Bool.true_and, Bool.and_false, Bool.false_and, Bool.or_true, Bool.true_or, Bool.or_false, Bool.false_or, beq_self_eq_true, dTT, dFF, dT, dF, bigI, big0, qja, qk8, qk9, List.length_set, List.length_replicate, Int.toNat_natCast, qcz, qc0, imax, imin, qbv]
theorem qby (k : Nat) (hk : 2000000 ≤ k) (a0 : Int) (a1z : Bool) (a1 : List (Int × Int × Int)) (a2z : Bool) (a2 : List Int) (a3z : Bool) (a3 : List Int) (a4z : Bool) (a4 : List Int) (b : Int) (h1 : (a1.length : Int) ≤ 1048576) (h2 : (a2.length : Int) ≤ 1048576) (h3 : (a3.length : Int) ≤ 1048576) (h4 : (a4.length : Int) ≤ 1048576) (h0 : 0 ≤ b) (hb : b ≤ 8700000000000) :
    go (k + 3) laws_markState [(.agg [(.int .i64 (a0)), (.arr true (a1z) (.r3 (a1))), (.arr true (a2z) (.ints .i64 (a2))), (.arr true (a3z) (.ints .i64 (a3))), (.arr true (a4z) (.ints .i64 (a4)))]), (.int .i64 (b))] = some [.int .i64 (b + 3 * a1.length + a2.length + a3.length + a4.length), .agg [.int .i64 a0, .arr true a1z (.r3 (qiy b a1.length)), .arr true a2z (.ints .i64 (marks (b + 3 * a1.length) a2.length)), .arr true a3z (.ints .i64 (marks (b + 3 * a1.length + a2.length) a3.length)), .arr true a4z (.ints .i64 (marks (b + 3 * a1.length + a2.length + a3.length) a4.length))]] := by
  rw [qfb]
  simp (disch := omega) only [qai, nth0, nth1, nth2, nth3, bit, qc1, qc2, qdd, qdi, qdj, qdk, qdl, qdm, qdn, qdo, qc3, qc4, qc5, qc6, qc7, qc8, qc9, qda, qdb, qdc, qde, qdf, qdg, qdh, qky, qkx, qkz, qjb, qjk, qjm, qgx, qak, qku, nI, qdt, qdr, Bool.not_true, Bool.not_false, Bool.and_true, Bool.true_and, Bool.and_false, Bool.false_and, Bool.or_true, Bool.true_or, Bool.or_false, Bool.false_or, beq_self_eq_true, dTT, dFF, dT, dF, bigI, big0, qja, qk8, qk9, List.length_set, List.length_replicate, Int.toNat_natCast, qcz, qc0, imax, imin, qbx, qbw]
end Go.Proofs.YtjfjniebmdafeaaDoor
end
section
namespace Go.Proofs.YtjfjniebmdafeaaDoor
open Go.Ev
set_option maxRecDepth 20000
theorem qb1 (k : Nat) (hk : 2000000 ≤ k) (a0 : Int) (a1z : Bool) (a1 : List (Int × Int × Int)) (a2z : Bool) (a2 : List Int) (a3z : Bool) (a3 : List Int) (a4z : Bool) (a4 : List Int) (a5 : Int) (a6 : Int) (a7 : Int) (a8 : Int) (a9 : Int) (a10 : Int) (a11 : Int) (a12 : Int) (a13 : Int) (a14 : Int) (a15 : Int) (a16 : Int) (a17 : Int) (a18 : Int) (a19 : Int) (a20 : Int) (b : Int) (h1 : (a1.length : Int) ≤ 1048576) (h2 : (a2.length : Int) ≤ 1048576) (h3 : (a3.length : Int) ≤ 1048576) (h4 : (a4.length : Int) ≤ 1048576) (h0 : 0 ≤ b) (hb : b ≤ 8700000000000) :
    go (k + 4) laws_markWorld [(.agg [(.int .i64 (a0)), (.arr true (a1z) (.r3 (a1))), (.arr true (a2z) (.ints .i64 (a2))), (.arr true (a3z) (.ints .i64 (a3))), (.arr true (a4z) (.ints .i64 (a4))), (.int .i64 (a5)), (.int .i64 (a6)), (.int .i64 (a7)), (.int .i64 (a8)), (.int .i64 (a9)), (.int .i64 (a10)), (.int .i64 (a11)), (.int .i64 (a12)), (.int .i64 (a13)), (.int .i64 (a14)), (.int .i64 (a15)), (.int .i64 (a16)), (.int .i64 (a17)), (.int .i64 (a18)), (.int .i64 (a19)), (.int .i64 (a20))]), (.int .i64 (b))] = some [.int .i64 (b + 3 * a1.length + a2.length + a3.length + a4.length), .agg [.int .i64 a0, .arr true a1z (.r3 (qiy b a1.length)), .arr true a2z (.ints .i64 (marks (b + 3 * a1.length) a2.length)), .arr true a3z (.ints .i64 (marks (b + 3 * a1.length + a2.length) a3.length)), .arr true a4z (.ints .i64 (marks (b + 3 * a1.length + a2.length + a3.length) a4.length)), .int .i64 a5, .int .i64 a6, .int .i64 a7, .int .i64 a8, .int .i64 a9, .int .i64 a10, .int .i64 a11, .int .i64 a12, .int .i64 a13, .int .i64 a14, .int .i64 a15, .int .i64 a16, .int .i64 a17, .int .i64 a18, .int .i64 a19, .int .i64 a20]] := by
  rw [qfe]
  simp (disch := omega) only [qai, nth0, nth1, nth2, nth3, bit, qc1, qc2, qdd, qdi, qdj, qdk, qdl, qdm, qdn, qdo, qc3, qc4, qc5, qc6, qc7, qc8, qc9, qda, qdb, qdc, qde, qdf, qdg, qdh, qky, qkx, qkz, qjb, qjk, qjm, qgx, qak, qku, nI, qdt, qdr, Bool.not_true, Bool.not_false, Bool.and_true, Bool.true_and, Bool.and_false, Bool.false_and, Bool.or_true, Bool.true_or, Bool.or_false, Bool.false_or, beq_self_eq_true, dTT, dFF, dT, dF, bigI, big0, qja, qk8, qk9, List.length_set, List.length_replicate, Int.toNat_natCast, qcz, qc0, imax, imin, qby]
end Go.Proofs.YtjfjniebmdafeaaDoor
end
section
namespace Go.Proofs.YtjfjniebmdafeaaDoor
open Go.Ev
set_option maxRecDepth 20000
def qgv (l : List UInt8) : List Int := l.map fun b => (b.toNat : Int)
theorem qkt (l : List UInt8) : strL (qgv l) = ba l := by
  unfold strL qgv
  rw [List.map_map]
  have : ((fun n => UInt8.ofNat (Int.toNat n)) ∘ fun (b : UInt8) => (b.toNat : Int)) = id := by
    funext b; simp
  rw [this, List.map_id]
theorem qgw (a b : List UInt8) : qgv a ++ qgv b = qgv (a ++ b) := by simp [qgv]
theorem qgz (a : List UInt8) : (qgv a).length = a.length := List.length_map ..
end Go.Proofs.YtjfjniebmdafeaaDoor
end
section
namespace Go.Proofs.YtjfjniebmdafeaaDoor
open Go.Ev
set_option maxRecDepth 20000
def dgS (x v m t : Int) : Int := Int.tmod (((x * 31 + v) * 31 + m) * 31 + t) 1000003
def dgA (l : List Cell) (m t : List Int) : Nat → Int
  | 0 => 1
  | n + 1 => dgS (dgA l m t n) (qh4 l n) (m.getD n 0) (t.getD n 0)
def dgB (x : Int) (b : List Int) : Nat → Int
  | 0 => x
  | n + 1 => Int.tmod (dgB x b n * 31 + b.getD n 0) 1000003
theorem qkw {x : Int} (h : 0 ≤ x) : 0 ≤ Int.tmod x 1000003 ∧ Int.tmod x 1000003 ≤ 1000002 := by
  rw [Int.tmod_eq_emod_of_nonneg h]; omega
theorem qdy {r : Int} {l : List Cell} {m t b : List Int} (F : StF r l m t b) : ∀ n, 0 ≤ dgA l m t n ∧ dgA l m t n ≤ 1000002
  | 0 => ⟨by show (0 : Int) ≤ 1; omega, by show (1 : Int) ≤ 1000002; omega⟩
  | n + 1 => by
    have ih := qdy F n
    have a := F.at n
    have lv := qi7 l r 0 F.mesh n
    unfold dgA dgS
    exact qkw (by omega)
theorem qdz {r : Int} {l : List Cell} {m t b : List Int} (F : StF r l m t b) (x : Int) (hx : 0 ≤ x ∧ x ≤ 1000002) : ∀ n, 0 ≤ dgB x b n ∧ dgB x b n ≤ 1000002
  | 0 => hx
  | n + 1 => by
    have ih := qdz F x hx n
    have a := F.bedAt n
    unfold dgB
    exact qkw (by omega)
def dig (l : List Cell) (m t b : List Int) : Int := dgB (dgA l m t l.length) b b.length
theorem qd0 {r : Int} {l : List Cell} {m t b : List Int} (F : StF r l m t b) : 0 ≤ dig l m t b ∧ dig l m t b ≤ 1000002 := qdz F _ (qdy F _) _
theorem qio (k : Nat) (hk : 2000000 ≤ k) (fu : List (Nat × Nat)) (r : Int) (z1 z2 z3 z4 : Bool) (l : List Cell) (m t b : List Int) (F : StF r l m t b) (x : Int) (hx : 0 ≤ x ∧ x ≤ 1000002) : ∀ (N i : Nat), i ≤ b.length → b.length - i < N →
    lp (k + 7) spec_DigestOf [] fu 9 (N) (qj7 (dgB x b i) (i : Int) z1 l z2 m z3 t z4 b r) = some [.int .i64 (dgB x b b.length)]
  | 0, i, hi, hN => by omega
  | N + 1, i, hi, hN => by
    rw [qhu]
    have bd := qdz F x hx i; have ba := F.bedAt i; have bl := F.bl; have rr := F.rr
    by_cases g : i < b.length
    · have IH := qio k hk fu r z1 z2 z3 z4 l m t b F x hx N (i + 1) (by omega) (by omega)
      rw [dgB] at IH
      simp (disch := omega) only [qai, nth0, nth1, nth2, nth3, bit, qc1, qc2, qdd, qdi, qdj, qdk, qdl, qdm, qdn, qdo, qc3, qc4, qc5, qc6, qc7, qc8, qc9, qda, qdb, qdc, qde, qdf, qdg, qdh, qky, qkx, qkz, qjb, qjk, qjm, qgx, qak, qku, nI, qdt, qdr, Bool.not_true, Bool.not_false, Bool.and_true, Bool.true_and, Bool.and_false, Bool.false_and, Bool.or_true, Bool.true_or, Bool.or_false, Bool.false_or, beq_self_eq_true, dTT, dFF, dT, dF, bigI, big0, qja, qk8, qk9, List.length_set, List.length_replicate, Int.toNat_natCast, qcz, qc0, imax, imin, IH]
    · obtain rfl : i = b.length := by omega
      simp (disch := omega) only [qai, nth0, nth1, nth2, nth3, bit, qc1, qc2, qdd, qdi, qdj, qdk, qdl, qdm, qdn, qdo, qc3, qc4, qc5, qc6, qc7, qc8, qc9, qda, qdb, qdc, qde, qdf, qdg, qdh, qky, qkx, qkz, qjb, qjk, qjm, qgx, qak, qku, nI, qdt, qdr, Bool.not_true, Bool.not_false, Bool.and_true, Bool.true_and, Bool.and_false, Bool.false_and, Bool.or_true, Bool.true_or, Bool.or_false, Bool.false_or, beq_self_eq_true, dTT, dFF, dT, dF, bigI, big0, qja, qk8, qk9, List.length_set, List.length_replicate, Int.toNat_natCast, qcz, qc0, imax, imin]
theorem qin (k : Nat) (hk : 2000000 ≤ k) (fu : List (Nat × Nat)) (r : Int) (z1 z2 z3 z4 : Bool) (l : List Cell) (m t b : List Int) (F : StF r l m t b) : ∀ (N i : Nat), i ≤ l.length → l.length - i < N →
    lp (k + 7) spec_DigestOf [] fu 5 (N) (qj6 (dgA l m t i) (i : Int) z1 l z2 m z3 t z4 b r) = some [.int .i64 (dig l m t b)]
  | 0, i, hi, hN => by omega
  | N + 1, i, hi, hN => by
    rw [qht]
    have bd := qdy F i; have a := F.at i; have lv := qi7 l r 0 F.mesh i; have ml := F.ml; have tl := F.tl; have bl := F.bl; have rr := F.rr; have ll := F.len
    simp only [qh4] at lv
    by_cases g : i < l.length
    · have IH := qin k hk fu r z1 z2 z3 z4 l m t b F N (i + 1) (by omega) (by omega)
      rw [dgA, dgS] at IH
      simp only [qh4] at IH
      simp (disch := omega) only [qai, nth0, nth1, nth2, nth3, bit, qc1, qc2, qdd, qdi, qdj, qdk, qdl, qdm, qdn, qdo, qc3, qc4, qc5, qc6, qc7, qc8, qc9, qda, qdb, qdc, qde, qdf, qdg, qdh, qky, qkx, qkz, qjb, qjk, qjm, qgx, qak, qku, nI, qdt, qdr, Bool.not_true, Bool.not_false, Bool.and_true, Bool.true_and, Bool.and_false, Bool.false_and, Bool.or_true, Bool.true_or, Bool.or_false, Bool.false_or, beq_self_eq_true, dTT, dFF, dT, dF, bigI, big0, qja, qk8, qk9, List.length_set, List.length_replicate, Int.toNat_natCast, qcz, qc0, imax, imin, IH]
    · obtain rfl : i = l.length := by omega
      have e9 := qio k hk fu r z1 z2 z3 z4 l m t b F (dgA l m t l.length) bd (k + 7) 0 (by omega) (by omega)
      rw [show dgB (dgA l m t l.length) b 0 = dgA l m t l.length from rfl, show ((0 : Nat) : Int) = 0 from rfl] at e9
      simp (disch := omega) only [qai, nth0, nth1, nth2, nth3, bit, qc1, qc2, qdd, qdi, qdj, qdk, qdl, qdm, qdn, qdo, qc3, qc4, qc5, qc6, qc7, qc8, qc9, qda, qdb, qdc, qde, qdf, qdg, qdh, qky, qkx, qkz, qjb, qjk, qjm, qgx, qak, qku, nI, qdt, qdr, Bool.not_true, Bool.not_false, Bool.and_true, Bool.true_and, Bool.and_false, Bool.false_and, Bool.or_true, Bool.true_or, Bool.or_false, Bool.false_or, beq_self_eq_true, dTT, dFF, dT, dF, bigI, big0, qja, qk8, qk9, List.length_set, List.length_replicate, Int.toNat_natCast, qcz, qc0, imax, imin, e9]
      rfl
theorem qch (k : Nat) (hk : 2000000 ≤ k) (r : Int) (z1 z2 z3 z4 : Bool) (l : List Cell) (m t b : List Int) (F : StF r l m t b) : go (k + 8) spec_DigestOf [.agg [.int .i64 (r), .arr false (z1) (.r3 (l)), .arr false (z2) (.ints .i64 (m)), .arr false (z3) (.ints .i64 (t)), .arr false (z4) (.ints .i64 (b))]] = some [.int .i64 (dig l m t b)] := by
  rw [qfw]
  have ll := F.len; have bl := F.bl; have rr := F.rr
  have eS := qcr k (by omega) r z1 l z2 m z3 t z4 b (by omega) (by omega)
  rw [stF.2 F] at eS
  have e := qin k hk [] r z1 z2 z3 z4 l m t b F (k + 7) 0 (by omega) (by omega)
  rw [show dgA l m t 0 = 1 from rfl, show ((0 : Nat) : Int) = 0 from rfl] at e
  simp (disch := omega) only [qai, nth0, nth1, nth2, nth3, bit, qc1, qc2, qdd, qdi, qdj, qdk, qdl, qdm, qdn, qdo, qc3, qc4, qc5, qc6, qc7, qc8, qc9, qda, qdb, qdc, qde, qdf, qdg, qdh, qky, qkx, qkz, qjb, qjk, qjm, qgx, qak, qku, nI, qdt, qdr, Bool.not_true, Bool.not_false, Bool.and_true, Bool.true_and, Bool.and_false, Bool.false_and, Bool.or_true, Bool.true_or, Bool.or_false, Bool.false_or, beq_self_eq_true, dTT, dFF, dT, dF, bigI, big0, qja, qk8, qk9, List.length_set, List.length_replicate, Int.toNat_natCast, qcz, qc0, imax, imin, eS]
  exact e
theorem qh9 (k : Nat) (hk : 2000000 ≤ k) (fu : List (Nat × Nat)) (r : Int) (z4 : Bool) (l : List Cell) (m t b : List Int) (F : StF r l m t b) (x : Int) (hx : 0 ≤ x ∧ x ≤ 1000002) : ∀ (N i : Nat), i ≤ b.length → b.length - i < N →
    lp (k + 8) impl_DigestOf [] fu 10 (N) (qjp (dgB x b i) (b.length : Int) (i : Int) z4 b) = some [.int .i64 (dgB x b b.length)]
  | 0, i, hi, hN => by omega
  | N + 1, i, hi, hN => by
    rw [qhb]
    have bd := qdz F x hx i; have ba := F.bedAt i; have bl := F.bl; have rr := F.rr
    by_cases g : i < b.length
    · have IH := qh9 k hk fu r z4 l m t b F x hx N (i + 1) (by omega) (by omega)
      rw [dgB] at IH
      simp (disch := omega) only [qai, nth0, nth1, nth2, nth3, bit, qc1, qc2, qdd, qdi, qdj, qdk, qdl, qdm, qdn, qdo, qc3, qc4, qc5, qc6, qc7, qc8, qc9, qda, qdb, qdc, qde, qdf, qdg, qdh, qky, qkx, qkz, qjb, qjk, qjm, qgx, qak, qku, nI, qdt, qdr, Bool.not_true, Bool.not_false, Bool.and_true, Bool.true_and, Bool.and_false, Bool.false_and, Bool.or_true, Bool.true_or, Bool.or_false, Bool.false_or, beq_self_eq_true, dTT, dFF, dT, dF, bigI, big0, qja, qk8, qk9, List.length_set, List.length_replicate, Int.toNat_natCast, qcz, qc0, imax, imin, IH]
    · obtain rfl : i = b.length := by omega
      simp (disch := omega) only [qai, nth0, nth1, nth2, nth3, bit, qc1, qc2, qdd, qdi, qdj, qdk, qdl, qdm, qdn, qdo, qc3, qc4, qc5, qc6, qc7, qc8, qc9, qda, qdb, qdc, qde, qdf, qdg, qdh, qky, qkx, qkz, qjb, qjk, qjm, qgx, qak, qku, nI, qdt, qdr, Bool.not_true, Bool.not_false, Bool.and_true, Bool.true_and, Bool.and_false, Bool.false_and, Bool.or_true, Bool.true_or, Bool.or_false, Bool.false_or, beq_self_eq_true, dTT, dFF, dT, dF, bigI, big0, qja, qk8, qk9, List.length_set, List.length_replicate, Int.toNat_natCast, qcz, qc0, imax, imin]
theorem qia (k : Nat) (hk : 2000000 ≤ k) (fu : List (Nat × Nat)) (r : Int) (z1 z2 z3 z4 : Bool) (l : List Cell) (m t b : List Int) (F : StF r l m t b) : ∀ (N i : Nat), i ≤ l.length → l.length - i < N →
    lp (k + 8) impl_DigestOf [] fu 5 (N) (qjq (dgA l m t i) (l.length : Int) (i : Int) z1 l z2 m z3 t z4 b r) = some [.int .i64 (dig l m t b)]
  | 0, i, hi, hN => by omega
  | N + 1, i, hi, hN => by
    rw [qhc]
    have bd := qdy F i; have a := F.at i; have lv := qi7 l r 0 F.mesh i; have ml := F.ml; have tl := F.tl; have bl := F.bl; have rr := F.rr; have ll := F.len
    simp only [qh4] at lv
    by_cases g : i < l.length
    · have IH := qia k hk fu r z1 z2 z3 z4 l m t b F N (i + 1) (by omega) (by omega)
      rw [dgA, dgS] at IH
      simp only [qh4] at IH
      simp (disch := omega) only [qai, nth0, nth1, nth2, nth3, bit, qc1, qc2, qdd, qdi, qdj, qdk, qdl, qdm, qdn, qdo, qc3, qc4, qc5, qc6, qc7, qc8, qc9, qda, qdb, qdc, qde, qdf, qdg, qdh, qky, qkx, qkz, qjb, qjk, qjm, qgx, qak, qku, nI, qdt, qdr, Bool.not_true, Bool.not_false, Bool.and_true, Bool.true_and, Bool.and_false, Bool.false_and, Bool.or_true, Bool.true_or, Bool.or_false, Bool.false_or, beq_self_eq_true, dTT, dFF, dT, dF, bigI, big0, qja, qk8, qk9, List.length_set, List.length_replicate, Int.toNat_natCast, qcz, qc0, imax, imin, IH]
    · obtain rfl : i = l.length := by omega
      have e9 := qh9 k hk fu r z4 l m t b F (dgA l m t l.length) bd (k + 8) 0 (by omega) (by omega)
      rw [show dgB (dgA l m t l.length) b 0 = dgA l m t l.length from rfl, show ((0 : Nat) : Int) = 0 from rfl] at e9
      simp (disch := omega) only [qai, nth0, nth1, nth2, nth3, bit, qc1, qc2, qdd, qdi, qdj, qdk, qdl, qdm, qdn, qdo, qc3, qc4, qc5, qc6, qc7, qc8, qc9, qda, qdb, qdc, qde, qdf, qdg, qdh, qky, qkx, qkz, qjb, qjk, qjm, qgx, qak, qku, nI, qdt, qdr, Bool.not_true, Bool.not_false, Bool.and_true, Bool.true_and, Bool.and_false, Bool.false_and, Bool.or_true, Bool.true_or, Bool.or_false, Bool.false_or, beq_self_eq_true, dTT, dFF, dT, dF, bigI, big0, qja, qk8, qk9, List.length_set, List.length_replicate, Int.toNat_natCast, qcz, qc0, imax, imin, e9]
      rfl
theorem qap (k : Nat) (hk : 2000000 ≤ k) (r : Int) (z1 z2 z3 z4 : Bool) (l : List Cell) (m t b : List Int) (F : StF r l m t b) : go (k + 9) impl_DigestOf [.agg [.int .i64 (r), .arr false (z1) (.r3 (l)), .arr false (z2) (.ints .i64 (m)), .arr false (z3) (.ints .i64 (t)), .arr false (z4) (.ints .i64 (b))]] = some [.int .i64 (dig l m t b)] := by
  rw [qd3]
  have ll := F.len; have bl := F.bl; have rr := F.rr
  have eS := qa0 k (by omega) r z1 l z2 m z3 t z4 b (by omega) (by omega)
  rw [stF.2 F] at eS
  have e := qia k hk [] r z1 z2 z3 z4 l m t b F (k + 8) 0 (by omega) (by omega)
  rw [show dgA l m t 0 = 1 from rfl, show ((0 : Nat) : Int) = 0 from rfl] at e
  simp (disch := omega) only [qai, nth0, nth1, nth2, nth3, bit, qc1, qc2, qdd, qdi, qdj, qdk, qdl, qdm, qdn, qdo, qc3, qc4, qc5, qc6, qc7, qc8, qc9, qda, qdb, qdc, qde, qdf, qdg, qdh, qky, qkx, qkz, qjb, qjk, qjm, qgx, qak, qku, nI, qdt, qdr, Bool.not_true, Bool.not_false, Bool.and_true, Bool.true_and, Bool.and_false, Bool.false_and, Bool.or_true, Bool.true_or, Bool.or_false, Bool.false_or, beq_self_eq_true, dTT, dFF, dT, dF, bigI, big0, qja, qk8, qk9, List.length_set, List.length_replicate, Int.toNat_natCast, qcz, qc0, imax, imin, eS]
  exact e
theorem qh5 {v : Int} (h : 0 ≤ v ∧ v ≤ 4) : IntKind.wrap IntKind.u8 (48 + v) = 48 + v := qk7 (by omega) (by omega)
theorem qg4 {v : Int} (h : 0 ≤ v ∧ v ≤ 4) : Lib.itoa v = [UInt8.ofNat (48 + v.toNat)] := by
  unfold Lib.itoa
  rw [if_neg (by omega)]
  exact Lib.decDigits_one (by omega)
theorem qgy {v : Int} (h : 0 ≤ v ∧ v ≤ 4) : [48 + v] = qgv (Lib.itoa v) := by
  rw [qg4 h]
  have : v = 0 ∨ v = 1 ∨ v = 2 ∨ v = 3 ∨ v = 4 := by omega
  rcases this with rfl | rfl | rfl | rfl | rfl <;> rfl
theorem qip (k : Nat) (hk : 2000000 ≤ k) (fu : List (Nat × Nat)) (z : Bool) (r : Int) (l : List Cell) (g : qi3 r 0 l = true) : ∀ (N i : Nat) (b : Bool), i ≤ l.length → l.length - i < N →
    lp (k + 5) spec_FormatMesh [] fu 3 (N) (qj9 (i : Int) z l r b (qgv (fmTo l i))) = some [.str (ba (fmTo l l.length))]
  | 0, i, b, hi, hN => by omega
  | N + 1, i, b, hi, hN => by
    rw [qhw]
    have L := qi6 g
    have lv := qi7 l r 0 g i
    simp only [qh4] at lv
    have ln := qgh l (fun i hi => by
      have h := qi7 l r 0 g i
      simp only [qh4] at h
      unfold inI64
      rw [decide_eq_true (by omega : -9223372036854775808 ≤ (l.getD i zz3).2.1), decide_eq_true (by omega : (l.getD i zz3).2.1 ≤ 9223372036854775807)]; rfl) i hi
    have li := qgz (fmTo l i)
    have bl : bigLen = 1099511627776 := rfl
    have wd := qh5 lv
    by_cases h : i < l.length
    · have IH := fun b => qip k hk fu z r l g N (i + 1) b (by omega) (by omega)
      have eM := qco k (by omega) r z l (by omega)
      rw [g] at eM
      have dg := qgy lv
      by_cases h0 : i = 0
      · subst h0
        have e : qgv (fmTo l (0 + 1)) = qgv (fmTo l 0) ++ [48 + (l.getD 0 zz3).2.1] := by
          rw [dg, qgw]; show qgv (fmTo l 0 ++ fmB l 0) = _; unfold fmB; rw [if_neg (by omega), List.nil_append]
        rw [e] at IH
        simp (disch := omega) only [qai, nth0, nth1, nth2, nth3, bit, qc1, qc2, qdd, qdi, qdj, qdk, qdl, qdm, qdn, qdo, qc3, qc4, qc5, qc6, qc7, qc8, qc9, qda, qdb, qdc, qde, qdf, qdg, qdh, qky, qkx, qkz, qjb, qjk, qjm, qgx, qak, qku, nI, qdt, qdr, Bool.not_true, Bool.not_false, Bool.and_true, Bool.true_and, Bool.and_false, Bool.false_and, Bool.or_true, Bool.true_or, Bool.or_false, Bool.false_or, beq_self_eq_true, dTT, dFF, dT, dF, bigI, big0, qja, qk8, qk9, List.length_set, List.length_replicate, Int.toNat_natCast, qcz, qc0, imax, imin, eM, wd, bl, li, List.length_append, List.length_cons, List.length_nil]
        exact IH _
      · have ci : (i : Int) - 1 = ((i - 1 : Nat) : Int) := by omega
        by_cases q : (l.getD i zz3).1 = (l.getD (i - 1) zz3).1
        · have e : qgv (fmTo l (i + 1)) = qgv (fmTo l i) ++ [48 + (l.getD i zz3).2.1] := by
            rw [dg, qgw]; show qgv (fmTo l i ++ fmB l i) = _; unfold fmB; rw [if_neg (fun h => h.2 q), List.nil_append]
          rw [e] at IH
          have q' : decide ((l.getD i zz3).1 = (l.getD (i - 1) zz3).1) = true := decide_eq_true q
          simp (disch := omega) only [qai, nth0, nth1, nth2, nth3, bit, qc1, qc2, qdd, qdi, qdj, qdk, qdl, qdm, qdn, qdo, qc3, qc4, qc5, qc6, qc7, qc8, qc9, qda, qdb, qdc, qde, qdf, qdg, qdh, qky, qkx, qkz, qjb, qjk, qjm, qgx, qak, qku, nI, qdt, qdr, Bool.not_true, Bool.not_false, Bool.and_true, Bool.true_and, Bool.and_false, Bool.false_and, Bool.or_true, Bool.true_or, Bool.or_false, Bool.false_or, beq_self_eq_true, dTT, dFF, dT, dF, bigI, big0, qja, qk8, qk9, List.length_set, List.length_replicate, Int.toNat_natCast, qcz, qc0, imax, imin, eM, wd, bl, li, ci, q', List.length_append, List.length_cons, List.length_nil]
          exact IH _
        · have e : qgv (fmTo l (i + 1)) = qgv (fmTo l i) ++ [124] ++ [48 + (l.getD i zz3).2.1] := by
            rw [dg, show ([124] : List Int) = qgv [124] from rfl, qgw, qgw]; show qgv (fmTo l i ++ fmB l i) = _; unfold fmB; rw [if_pos ⟨by omega, q⟩, List.append_assoc]
          rw [e] at IH
          have q' : decide ((l.getD i zz3).1 = (l.getD (i - 1) zz3).1) = false := decide_eq_false q
          simp (disch := omega) only [qai, nth0, nth1, nth2, nth3, bit, qc1, qc2, qdd, qdi, qdj, qdk, qdl, qdm, qdn, qdo, qc3, qc4, qc5, qc6, qc7, qc8, qc9, qda, qdb, qdc, qde, qdf, qdg, qdh, qky, qkx, qkz, qjb, qjk, qjm, qgx, qak, qku, nI, qdt, qdr, Bool.not_true, Bool.not_false, Bool.and_true, Bool.true_and, Bool.and_false, Bool.false_and, Bool.or_true, Bool.true_or, Bool.or_false, Bool.false_or, beq_self_eq_true, dTT, dFF, dT, dF, bigI, big0, qja, qk8, qk9, List.length_set, List.length_replicate, Int.toNat_natCast, qcz, qc0, imax, imin, eM, wd, bl, li, ci, q', List.length_append, List.length_cons, List.length_nil]
          exact IH _
    · obtain rfl : i = l.length := by omega
      simp (disch := omega) only [qai, nth0, nth1, nth2, nth3, bit, qc1, qc2, qdd, qdi, qdj, qdk, qdl, qdm, qdn, qdo, qc3, qc4, qc5, qc6, qc7, qc8, qc9, qda, qdb, qdc, qde, qdf, qdg, qdh, qky, qkx, qkz, qjb, qjk, qjm, qgx, qak, qku, nI, qdt, qdr, Bool.not_true, Bool.not_false, Bool.and_true, Bool.true_and, Bool.and_false, Bool.false_and, Bool.or_true, Bool.true_or, Bool.or_false, Bool.false_or, beq_self_eq_true, dTT, dFF, dT, dF, bigI, big0, qja, qk8, qk9, List.length_set, List.length_replicate, Int.toNat_natCast, qcz, qc0, imax, imin, qkt]
theorem qgi {r : Int} {l : List Cell} (g : qi3 r 0 l = true) : fmeshL r l = fmTo l l.length := by unfold fmeshL; rw [qi8, g]; rfl
theorem qck (k : Nat) (hk : 2000000 ≤ k) (r : Int) (z : Bool) (l : List Cell) (g : qi3 r 0 l = true) : go (k + 6) spec_FormatMesh [.agg [.int .i64 r, .arr false z (.r3 l)]] = some [.str (ba (fmeshL r l))] := by
  rw [qfy, qgi g]
  have e := qip k hk [] z r l g (k + 5) 0 false (by omega) (by have := qi6 g; omega)
  rw [show qgv (fmTo l 0) = [] from rfl, show ((0 : Nat) : Int) = 0 from rfl] at e
  exact e
def ln (w : List UInt8) (x : Int) : List UInt8 := spacedL w [x]
def fwL (w : Wd) : List ByteArray := [ba (ln [115, 116, 101, 112] w.k), ba ([109, 101, 115, 104, 32] ++ fmeshL w.r w.s.1), ba (ln [109, 97, 115, 115] (isum w.s.2.1)), ba (ln [116, 114, 97, 99, 101, 114] (isum w.s.2.2)), ba (ln [105, 110] w.ld.mi), ba (ln [111, 117, 116] w.ld.mo), ba (ln [100, 105, 103, 101, 115, 116] (dig w.s.1 w.s.2.1 w.s.2.2 w.b))]
def fwT (w : Wd) : List ByteArray := cond (wdOk w) (fwL w) []
theorem qgs {x : Int} (h : -1000000000000000000 ≤ x ∧ x ≤ 1000000000000000000) : inI64 x = true := by
  unfold inI64; rw [decide_eq_true (by omega : -9223372036854775808 ≤ x), decide_eq_true (by omega : x ≤ 9223372036854775807)]; rfl
theorem qgl {r : Int} {l : List Cell} (g : qi3 r 0 l = true) : (fmeshL r l).length ≤ 5000 := by
  rw [qgi g]
  have L := qi6 g
  have ln := qgh l (fun i hi => by
      have h := qi7 l r 0 g i
      simp only [qh4] at h
      exact qgs (by omega)) l.length (Nat.le_refl _)
  omega
theorem qcl (k : Nat) (hk : 2000000 ≤ k) (w : Wd) (S : Sml w) : go (k + 9) spec_FormatWorld [wdR w] = some [.arr true false (.strs (fwT w))] := by
  rw [qfz]
  have h1 := S.h1; have h2 := S.h2; have h3 := S.h3; have h4 := S.h4
  have eW := qct k (by omega) w.r false w.s.1 false w.s.2.1 false w.s.2.2 false w.b w.p.bi w.p.bs w.p.bo w.p.rain w.p.loss w.p.dec w.p.high w.p.low w.p.every w.k w.ld.mi w.ld.mo w.ld.ti w.ld.ou w.f w.g (by omega) (by omega)
  rw [show qk6 w.r w.s.1 w.s.2.1 w.s.2.2 w.b w.p.bi w.p.bs w.p.bo w.p.rain w.p.loss w.p.dec w.p.high w.p.low w.p.every w.k w.ld.mi w.ld.mo w.ld.ti w.ld.ou w.f w.g = wdOk w from rfl] at eW
  unfold fwT
  cases g : wdOk w
  · rw [g] at eW
    simp (disch := omega) only [qai, nth0, nth1, nth2, nth3, bit, qc1, qc2, qdd, qdi, qdj, qdk, qdl, qdm, qdn, qdo, qc3, qc4, qc5, qc6, qc7, qc8, qc9, qda, qdb, qdc, qde, qdf, qdg, qdh, qky, qkx, qkz, qjb, qjk, qjm, qgx, qak, qku, nI, qdt, qdr, Bool.not_true, Bool.not_false, Bool.and_true, Bool.true_and, Bool.and_false, Bool.false_and, Bool.or_true, Bool.true_or, Bool.or_false, Bool.false_or, beq_self_eq_true, dTT, dFF, dT, dF, bigI, big0, qja, qk8, qk9, List.length_set, List.length_replicate, Int.toNat_natCast, qcz, qc0, imax, imin, eW]
  rw [g] at eW
  have F := wdF g
  have s1 := qg2 _ F.F.mmem; have s2 := qg2 _ F.F.tmem
  have ll := F.F.len; have ml := F.F.ml; have tl := F.F.tl; have bl := F.F.bl; have rr := F.F.rr
  have k0 := F.k; have l1 := F.L.mi; have l2 := F.L.mo
  have db := qd0 F.F
  have fz := qgl F.F.mesh
  have i1 : inI64 w.k = true := qgs (by omega)
  have i2 : inI64 (isum w.s.2.1) = true := qgs (by omega)
  have i3 : inI64 (isum w.s.2.2) = true := qgs (by omega)
  have i4 : inI64 w.ld.mi = true := qgs (by omega)
  have i5 : inI64 w.ld.mo = true := qgs (by omega)
  have i6 : inI64 (dig w.s.1 w.s.2.1 w.s.2.2 w.b) = true := qgs (by omega)
  have a1 := qcj (k + 6) (by omega) _ i1
  have a2 := qcj (k + 6) (by omega) _ i2
  have a3 := qcj (k + 6) (by omega) _ i3
  have a4 := qcj (k + 6) (by omega) _ i4
  have a5 := qcj (k + 6) (by omega) _ i5
  have a6 := qcj (k + 6) (by omega) _ i6
  have z1 := qg5 _ i1; have z2 := qg5 _ i2; have z3 := qg5 _ i3; have z4 := qg5 _ i4; have z5 := qg5 _ i5; have z6 := qg5 _ i6
  have b1 := qcx (k + 7) (by omega) false w.s.2.1 (by omega) F.F.mmem
  have b2 := qcx (k + 7) (by omega) false w.s.2.2 (by omega) F.F.tmem
  have b3 := qck (k + 2) (by omega) w.r false w.s.1 F.F.mesh
  have b4 := qch k (by omega) w.r false false false false w.s.1 w.s.2.1 w.s.2.2 w.b F.F
  have q1 : ({ data := #[(115 : UInt8), (116 : UInt8), (101 : UInt8), (112 : UInt8), (32 : UInt8)] } : ByteArray) = ba [115, 116, 101, 112, 32] := Eq.trans rfl rfl
  have q2 : ({ data := #[(109 : UInt8), (101 : UInt8), (115 : UInt8), (104 : UInt8), (32 : UInt8)] } : ByteArray) = ba [109, 101, 115, 104, 32] := Eq.trans rfl rfl
  have q3 : ({ data := #[(109 : UInt8), (97 : UInt8), (115 : UInt8), (115 : UInt8), (32 : UInt8)] } : ByteArray) = ba [109, 97, 115, 115, 32] := Eq.trans rfl rfl
  have q4 : ({ data := #[(116 : UInt8), (114 : UInt8), (97 : UInt8), (99 : UInt8), (101 : UInt8), (114 : UInt8), (32 : UInt8)] } : ByteArray) = ba [116, 114, 97, 99, 101, 114, 32] := Eq.trans rfl rfl
  have q5 : ({ data := #[(105 : UInt8), (110 : UInt8), (32 : UInt8)] } : ByteArray) = ba [105, 110, 32] := Eq.trans rfl rfl
  have q6 : ({ data := #[(111 : UInt8), (117 : UInt8), (116 : UInt8), (32 : UInt8)] } : ByteArray) = ba [111, 117, 116, 32] := Eq.trans rfl rfl
  have q7 : ({ data := #[(100 : UInt8), (105 : UInt8), (103 : UInt8), (101 : UInt8), (115 : UInt8), (116 : UInt8), (32 : UInt8)] } : ByteArray) = ba [100, 105, 103, 101, 115, 116, 32] := Eq.trans rfl rfl
  simp (disch := omega) only [qai, nth0, nth1, nth2, nth3, bit, qc1, qc2, qdd, qdi, qdj, qdk, qdl, qdm, qdn, qdo, qc3, qc4, qc5, qc6, qc7, qc8, qc9, qda, qdb, qdc, qde, qdf, qdg, qdh, qky, qkx, qkz, qjb, qjk, qjm, qgx, qak, qku, nI, qdt, qdr, Bool.not_true, Bool.not_false, Bool.and_true, Bool.true_and, Bool.and_false, Bool.false_and, Bool.or_true, Bool.true_or, Bool.or_false, Bool.false_or, beq_self_eq_true, dTT, dFF, dT, dF, bigI, big0, qja, qk8, qk9, List.length_set, List.length_replicate, Int.toNat_natCast, qcz, qc0, imax, imin, eW, a1, b3, b1, a2, b2, a3, a4, a5, b4, a6, q1, q2, q3, q4, q5, q6, q7, qac, qae, List.length_append, List.length_cons, List.length_nil]
  simp [fwL, ln, spacedL]
theorem qar (k : Nat) (hk : 2000000 ≤ k) (w : Wd) (S : Sml w) : go (k + 10) impl_FormatWorld [wdR w] = some [.arr true (!wdOk w) (.strs (fwT w))] := by
  rw [qd4]
  have h1 := S.h1; have h2 := S.h2; have h3 := S.h3; have h4 := S.h4
  have eW := qa3 k (by omega) w.r false w.s.1 false w.s.2.1 false w.s.2.2 false w.b w.p.bi w.p.bs w.p.bo w.p.rain w.p.loss w.p.dec w.p.high w.p.low w.p.every w.k w.ld.mi w.ld.mo w.ld.ti w.ld.ou w.f w.g (by omega) (by omega)
  rw [show qk6 w.r w.s.1 w.s.2.1 w.s.2.2 w.b w.p.bi w.p.bs w.p.bo w.p.rain w.p.loss w.p.dec w.p.high w.p.low w.p.every w.k w.ld.mi w.ld.mo w.ld.ti w.ld.ou w.f w.g = wdOk w from rfl] at eW
  unfold fwT
  cases g : wdOk w
  · rw [g] at eW
    simp (disch := omega) only [qai, nth0, nth1, nth2, nth3, bit, qc1, qc2, qdd, qdi, qdj, qdk, qdl, qdm, qdn, qdo, qc3, qc4, qc5, qc6, qc7, qc8, qc9, qda, qdb, qdc, qde, qdf, qdg, qdh, qky, qkx, qkz, qjb, qjk, qjm, qgx, qak, qku, nI, qdt, qdr, Bool.not_true, Bool.not_false, Bool.and_true, Bool.true_and, Bool.and_false, Bool.false_and, Bool.or_true, Bool.true_or, Bool.or_false, Bool.false_or, beq_self_eq_true, dTT, dFF, dT, dF, bigI, big0, qja, qk8, qk9, List.length_set, List.length_replicate, Int.toNat_natCast, qcz, qc0, imax, imin, eW]
  rw [g] at eW
  have F := wdF g
  have s1 := qg2 _ F.F.mmem; have s2 := qg2 _ F.F.tmem
  have ll := F.F.len; have ml := F.F.ml; have tl := F.F.tl; have bl := F.F.bl; have rr := F.F.rr
  have k0 := F.k; have l1 := F.L.mi; have l2 := F.L.mo
  have db := qd0 F.F
  have fz := qgl F.F.mesh
  have i1 : inI64 w.k = true := qgs (by omega)
  have i2 : inI64 (isum w.s.2.1) = true := qgs (by omega)
  have i3 : inI64 (isum w.s.2.2) = true := qgs (by omega)
  have i4 : inI64 w.ld.mi = true := qgs (by omega)
  have i5 : inI64 w.ld.mo = true := qgs (by omega)
  have i6 : inI64 (dig w.s.1 w.s.2.1 w.s.2.2 w.b) = true := qgs (by omega)
  have sp := fun (wd : List UInt8) (x : Int) (h : wd.length ≤ 1000) (hx : inI64 x = true) => qbf (k + 8) (ba wd) false [x] (by rw [qae]; exact h) (by simp) (by simp [hx])
  have a1 := sp [115, 116, 101, 112] _ (by decide) i1
  have a2 := sp [109, 97, 115, 115] _ (by decide) i2
  have a3 := sp [116, 114, 97, 99, 101, 114] _ (by decide) i3
  have a4 := sp [105, 110] _ (by decide) i4
  have a5 := sp [111, 117, 116] _ (by decide) i5
  have a6 := sp [100, 105, 103, 101, 115, 116] _ (by decide) i6
  clear sp
  simp only [qad] at a1 a2 a3 a4 a5 a6
  have b1 := qbg (k + 8) (by omega) false w.s.2.1 (by omega) F.F.mmem
  have b2 := qbg (k + 8) (by omega) false w.s.2.2 (by omega) F.F.tmem
  have b3 := qaq (k + 8) w.r false w.s.1 (by omega)
  have b4 := qap k (by omega) w.r false false false false w.s.1 w.s.2.1 w.s.2.2 w.b F.F
  have q2 : ({ data := #[(109 : UInt8), (101 : UInt8), (115 : UInt8), (104 : UInt8), (32 : UInt8)] } : ByteArray) = ba [109, 101, 115, 104, 32] := Eq.trans rfl rfl
  simp (disch := omega) only [qai, nth0, nth1, nth2, nth3, bit, qc1, qc2, qdd, qdi, qdj, qdk, qdl, qdm, qdn, qdo, qc3, qc4, qc5, qc6, qc7, qc8, qc9, qda, qdb, qdc, qde, qdf, qdg, qdh, qky, qkx, qkz, qjb, qjk, qjm, qgx, qak, qku, nI, qdt, qdr, Bool.not_true, Bool.not_false, Bool.and_true, Bool.true_and, Bool.and_false, Bool.false_and, Bool.or_true, Bool.true_or, Bool.or_false, Bool.false_or, beq_self_eq_true, dTT, dFF, dT, dF, bigI, big0, qja, qk8, qk9, List.length_set, List.length_replicate, Int.toNat_natCast, qcz, qc0, imax, imin, eW, a1, b3, b1, a2, b2, a3, a4, a5, b4, a6, q2, qac, qae, List.length_append, List.length_cons, List.length_nil]
  rfl
end Go.Proofs.YtjfjniebmdafeaaDoor
end
section
namespace Go.Proofs.YtjfjniebmdafeaaDoor
open Go.Ev
set_option maxRecDepth 20000
def mtx (n : Nat) : ByteArray := ba (109 :: decD n)
theorem m_mt (k : Nat) (hk : 2000000 ≤ k) (fu : List (Nat × Nat)) : ∀ (M N m : Nat) (s : List UInt8), M < N → m < 10 ^ M → (m : Int) ≤ 9223372036854775807 → s.length + M ≤ 100 →
    lp k laws_markText [] fu 4 (N) (qj2 (m : Int) (ba s)) = some [.str (ba (109 :: (decD m ++ s)))]
  | M, 0, m, s, hN, hm, hb, hs => by omega
  | 0, N + 1, m, s, hN, hm, hb, hs => by
    rw [qhp]
    have m0 : m = 0 := by simpa using hm
    subst m0
    have sz := qae s
    have s1 : ByteArray.size { data := #[(109 : UInt8)] } = 1 := Eq.trans rfl rfl
    have ap : ({ data := #[(109 : UInt8)] } : ByteArray) ++ ba s = ba (109 :: s) := qac [109] s
    rw [decD, dif_pos rfl, List.nil_append]
    simp (disch := omega) only [qai, nth0, nth1, nth2, nth3, bit, qc1, qc2, qdd, qdi, qdj, qdk, qdl, qdm, qdn, qdo, qc3, qc4, qc5, qc6, qc7, qc8, qc9, qda, qdb, qdc, qde, qdf, qdg, qdh, qky, qkx, qkz, qjb, qjk, qjm, qgx, qak, qku, nI, qdt, qdr, Bool.not_true, Bool.not_false, Bool.and_true, Bool.true_and, Bool.and_false, Bool.false_and, Bool.or_true, Bool.true_or, Bool.or_false, Bool.false_or, beq_self_eq_true, dTT, dFF, dT, dF, bigI, big0, qja, qk8, qk9, List.length_set, List.length_replicate, Int.toNat_natCast, qcz, qc0, imax, imin, sz, s1, ap]
  | M + 1, N + 1, m, s, hN, hm, hb, hs => by
    rw [qhp]
    have sz := qae s
    have s1 : ByteArray.size { data := #[(109 : UInt8)] } = 1 := Eq.trans rfl rfl
    have ap : ({ data := #[(109 : UInt8)] } : ByteArray) ++ ba s = ba (109 :: s) := qac [109] s
    by_cases g : m = 0
    · subst g
      rw [decD, dif_pos rfl, List.nil_append]
      simp (disch := omega) only [qai, nth0, nth1, nth2, nth3, bit, qc1, qc2, qdd, qdi, qdj, qdk, qdl, qdm, qdn, qdo, qc3, qc4, qc5, qc6, qc7, qc8, qc9, qda, qdb, qdc, qde, qdf, qdg, qdh, qky, qkx, qkz, qjb, qjk, qjm, qgx, qak, qku, nI, qdt, qdr, Bool.not_true, Bool.not_false, Bool.and_true, Bool.true_and, Bool.and_false, Bool.false_and, Bool.or_true, Bool.true_or, Bool.or_false, Bool.false_or, beq_self_eq_true, dTT, dFF, dT, dF, bigI, big0, qja, qk8, qk9, List.length_set, List.length_replicate, Int.toNat_natCast, qcz, qc0, imax, imin, sz, s1, ap]
    have m10 : m / 10 < 10 ^ M := by rw [Nat.pow_succ] at hm; omega
    have st := qks (48 + m % 10)
    have sb : ByteArray.size (ba [UInt8.ofNat (48 + m % 10)]) = 1 := Eq.trans rfl rfl
    have ap2 : ba [UInt8.ofNat (48 + m % 10)] ++ ba s = ba (UInt8.ofNat (48 + m % 10) :: s) := qac _ _
    have ed : decD m ++ s = decD (m / 10) ++ UInt8.ofNat (48 + m % 10) :: s := by
      rw [decD, dif_neg g, List.append_assoc]; rfl
    rw [ed]
    have IH := m_mt k hk fu M N (m / 10) (UInt8.ofNat (48 + m % 10) :: s) (by omega) m10 (by omega) (by simp only [List.length_cons]; omega)
    have t1 : Int.tmod (m : Int) 10 = ((m % 10 : Nat) : Int) := by rw [Int.tmod_eq_emod_of_nonneg (by omega)]; omega
    have t2 : Int.tdiv (m : Int) 10 = ((m / 10 : Nat) : Int) := by rw [Int.tdiv_eq_ediv_of_nonneg (by omega)]; omega
    have wb : IntKind.wrap IntKind.u8 ((48 : Int) + ((m % 10 : Nat) : Int)) = ((48 + m % 10 : Nat) : Int) := by rw [qk7 (by omega) (by omega)]; omega
    simp (disch := omega) only [qai, nth0, nth1, nth2, nth3, bit, qc1, qc2, qdd, qdi, qdj, qdk, qdl, qdm, qdn, qdo, qc3, qc4, qc5, qc6, qc7, qc8, qc9, qda, qdb, qdc, qde, qdf, qdg, qdh, qky, qkx, qkz, qjb, qjk, qjm, qgx, qak, qku, nI, qdt, qdr, Bool.not_true, Bool.not_false, Bool.and_true, Bool.true_and, Bool.and_false, Bool.false_and, Bool.or_true, Bool.true_or, Bool.or_false, Bool.false_or, beq_self_eq_true, dTT, dFF, dT, dF, bigI, big0, qja, qk8, qk9, List.length_set, List.length_replicate, Int.toNat_natCast, qcz, qc0, imax, imin, t1, t2, wb, st, sb, sz, ap2, IH]
theorem qb0 (k : Nat) (hk : 2000000 ≤ k) (n : Nat) (h0 : 0 < n) (hn : (n : Int) ≤ 8796093022208) : go (k + 1) laws_markText [.int .i64 (n : Int)] = some [.str (mtx n)] := by
  rw [qfd]
  have e := m_mt k hk [] 19 (k + 0) n [] (by omega) (by omega) (by omega) (by simp)
  rw [List.append_nil] at e
  have y0 : ({ data := #[] } : ByteArray) = ba [] := Eq.trans rfl rfl
  simp (disch := omega) only [qai, nth0, nth1, nth2, nth3, bit, qc1, qc2, qdd, qdi, qdj, qdk, qdl, qdm, qdn, qdo, qc3, qc4, qc5, qc6, qc7, qc8, qc9, qda, qdb, qdc, qde, qdf, qdg, qdh, qky, qkx, qkz, qjb, qjk, qjm, qgx, qak, qku, nI, qdt, qdr, Bool.not_true, Bool.not_false, Bool.and_true, Bool.true_and, Bool.and_false, Bool.false_and, Bool.or_true, Bool.true_or, Bool.or_false, Bool.false_or, beq_self_eq_true, dTT, dFF, dT, dF, bigI, big0, qja, qk8, qk9, List.length_set, List.length_replicate, Int.toNat_natCast, qcz, qc0, imax, imin, y0]
  exact e
def qiv (b : Nat) : Nat → List ByteArray
  | 0 => []
  | n + 1 => mtx b :: qiv (b + 1) n
theorem qix : ∀ (n : Nat) (b : Nat), (qiv b n).length = n
  | 0, b => rfl
  | n + 1, b => by simp [qiv, qix n]
theorem qiw : ∀ (n i : Nat) (b : Nat), i < n → (qiv b n).getD i ByteArray.empty = mtx (b + i)
  | 0, i, b, h => by omega
  | n + 1, 0, b, h => by simp [qiv]
  | n + 1, i + 1, b, h => by
    have := qiw n i (b + 1) (by omega)
    simp only [qiv, List.getD_cons_succ, this]; congr 1; omega
theorem qkh (l : List ByteArray) (i : Nat) (x : ByteArray) (r : List ByteArray) (h : i < l.length) : (l.set i x).take (i + 1) ++ r = l.take i ++ x :: r := by
  rw [List.take_succ_eq_append_getElem (by simpa using h), List.take_set_of_le (Nat.le_refl i)]
  simp
theorem qim (k : Nat) (hk : 2000000 ≤ k) (fu : List (Nat × Nat)) (az : Bool) (a : List ByteArray) (z : Bool) (L : Nat) (hl : (L : Int) ≤ 1048576) : ∀ (n i : Nat) (l : List ByteArray) (b : Nat), l.length = L → i ≤ L → 0 < b → b + L ≤ 8796093022208 + i → L - i < n →
    lp (k + 1) laws_markStringS [(.arr true (az) (.strs (a)))] fu 2 (n) (qj1 (b : Int) (i : Int) z l) = some [.int .i64 ((b + (L - i) : Nat) : Int), .arr true z (.strs (l.take i ++ qiv b (L - i)))]
  | 0, i, l, b, hL, hi, h0, hb, hn => by omega
  | n + 1, i, l, b, hL, hi, h0, hb, hn => by
    rw [qho]
    by_cases h : i < L
    · have e := qb0 k (by omega) b h0 (by omega)
      have IH := qim k hk fu az a z L hl n (i + 1) (l.set i (mtx b)) (b + 1) (by simp [hL]) (by omega) (by omega) (by omega) (by omega)
      simp (disch := omega) only [qai, nth0, nth1, nth2, nth3, bit, qc1, qc2, qdd, qdi, qdj, qdk, qdl, qdm, qdn, qdo, qc3, qc4, qc5, qc6, qc7, qc8, qc9, qda, qdb, qdc, qde, qdf, qdg, qdh, qky, qkx, qkz, qjb, qjk, qjm, qgx, qak, qku, nI, qdt, qdr, Bool.not_true, Bool.not_false, Bool.and_true, Bool.true_and, Bool.and_false, Bool.false_and, Bool.or_true, Bool.true_or, Bool.or_false, Bool.false_or, beq_self_eq_true, dTT, dFF, dT, dF, bigI, big0, qja, qk8, qk9, List.length_set, List.length_replicate, Int.toNat_natCast, qcz, qc0, imax, imin, e]
      rw [IH]
      rw [qkh l i (mtx b) _ (by omega), show L - i = (L - (i + 1)) + 1 by omega]
      simp only [qiv]
      rw [show b + 1 + (L - (i + 1)) = b + (L - (i + 1) + 1) by omega]
    · simp (disch := omega) only [qai, nth0, nth1, nth2, nth3, bit, qc1, qc2, qdd, qdi, qdj, qdk, qdl, qdm, qdn, qdo, qc3, qc4, qc5, qc6, qc7, qc8, qc9, qda, qdb, qdc, qde, qdf, qdg, qdh, qky, qkx, qkz, qjb, qjk, qjm, qgx, qak, qku, nI, qdt, qdr, Bool.not_true, Bool.not_false, Bool.and_true, Bool.true_and, Bool.and_false, Bool.false_and, Bool.or_true, Bool.true_or, Bool.or_false, Bool.false_or, beq_self_eq_true, dTT, dFF, dT, dF, bigI, big0, qja, qk8, qk9, List.length_set, List.length_replicate, Int.toNat_natCast, qcz, qc0, imax, imin]
      rw [show L - i = 0 by omega]
      simp only [qiv, List.append_nil]
      rw [List.take_of_length_le (by omega)]
      simp
theorem qbz (k : Nat) (hk : 2000000 ≤ k) (z : Bool) (l : List ByteArray) (b : Nat) (hl : (l.length : Int) ≤ 1048576) (h0 : 0 < b) (hb : b ≤ 1000000) : go (k + 2) laws_markStringS [.arr true z (.strs l), .int .i64 (b : Int)] = some [.int .i64 ((b + l.length : Nat) : Int), .arr true z (.strs (qiv b l.length))] := by
  rw [qfc]
  have e := qim k hk [] z l z l.length hl (k + 1) 0 l b rfl (by omega) h0 (by omega) (by omega)
  rw [Nat.sub_zero, List.take_zero, List.nil_append, show ((0 : Nat) : Int) = 0 from rfl] at e
  exact e
theorem qh8 (k : Nat) (hk : 2000000 ≤ k) (fu : List (Nat × Nat)) (z : Bool) (L b0 : Nat) (hl : (L : Int) ≤ 1048576) (h0 : 0 < b0) (hb : b0 ≤ 1000000) : ∀ (n i : Nat), i ≤ L → L - i < n →
    lp (k + 1) laws_heldStringS [] fu 2 (n) (qjy ((b0 + i : Nat) : Int) (i : Int) z (qiv b0 L)) = some [.int .i64 ((b0 + L : Nat) : Int)]
  | 0, i, hi, hn => by omega
  | n + 1, i, hi, hn => by
    rw [qhl]
    have ml := qix L b0
    by_cases h : i < L
    · have e := qb0 k (by omega) (b0 + i) (by omega) (by omega)
      have gg := qiw L i b0 h
      have IH := qh8 k hk fu z L b0 hl h0 hb n (i + 1) (by omega) (by omega)
      rw [show b0 + (i + 1) = b0 + i + 1 by omega] at IH
      simp (disch := omega) only [qai, nth0, nth1, nth2, nth3, bit, qc1, qc2, qdd, qdi, qdj, qdk, qdl, qdm, qdn, qdo, qc3, qc4, qc5, qc6, qc7, qc8, qc9, qda, qdb, qdc, qde, qdf, qdg, qdh, qky, qkx, qkz, qjb, qjk, qjm, qgx, qak, qku, nI, qdt, qdr, Bool.not_true, Bool.not_false, Bool.and_true, Bool.true_and, Bool.and_false, Bool.false_and, Bool.or_true, Bool.true_or, Bool.or_false, Bool.false_or, beq_self_eq_true, dTT, dFF, dT, dF, bigI, big0, qja, qk8, qk9, List.length_set, List.length_replicate, Int.toNat_natCast, qcz, qc0, imax, imin, ml, e, gg, decide_true]
      exact IH
    · obtain rfl : i = L := by omega
      simp (disch := omega) only [qai, nth0, nth1, nth2, nth3, bit, qc1, qc2, qdd, qdi, qdj, qdk, qdl, qdm, qdn, qdo, qc3, qc4, qc5, qc6, qc7, qc8, qc9, qda, qdb, qdc, qde, qdf, qdg, qdh, qky, qkx, qkz, qjb, qjk, qjm, qgx, qak, qku, nI, qdt, qdr, Bool.not_true, Bool.not_false, Bool.and_true, Bool.true_and, Bool.and_false, Bool.false_and, Bool.or_true, Bool.true_or, Bool.or_false, Bool.false_or, beq_self_eq_true, dTT, dFF, dT, dF, bigI, big0, qja, qk8, qk9, List.length_set, List.length_replicate, Int.toNat_natCast, qcz, qc0, imax, imin, ml]
theorem qbu (k : Nat) (hk : 2000000 ≤ k) (z : Bool) (L b : Nat) (hl : (L : Int) ≤ 1048576) (h0 : 0 < b) (hb : b ≤ 1000000) : go (k + 2) laws_heldStringS [.arr false z (.strs (qiv b L)), .int .i64 (b : Int)] = some [.int .i64 ((b + L : Nat) : Int)] := by
  rw [qe7]
  have e := qh8 k hk [] z L b hl h0 hb (k + 1) 0 (by omega) (by omega)
  rw [Nat.add_zero, show ((0 : Nat) : Int) = 0 from rfl] at e
  exact e
theorem qh6 (k : Nat) (hk : 2000000 ≤ k) (fu : List (Nat × Nat)) (z z' : Bool) (l : List ByteArray) (hl : (l.length : Int) ≤ 1048576) : ∀ (n i : Nat), i ≤ l.length → l.length - i < n →
    lp k laws_eqStringS [] fu 4 (n) (qjx (i : Int) z l z' l) = some [.bool true]
  | 0, i, hi, hn => by omega
  | n + 1, i, hi, hn => by
    rw [qhk]
    by_cases h : i < l.length
    · have IH := qh6 k hk fu z z' l hl n (i + 1) (by omega) (by omega)
      simp (disch := omega) only [qai, nth0, nth1, nth2, nth3, bit, qc1, qc2, qdd, qdi, qdj, qdk, qdl, qdm, qdn, qdo, qc3, qc4, qc5, qc6, qc7, qc8, qc9, qda, qdb, qdc, qde, qdf, qdg, qdh, qky, qkx, qkz, qjb, qjk, qjm, qgx, qak, qku, nI, qdt, qdr, Bool.not_true, Bool.not_false, Bool.and_true, Bool.true_and, Bool.and_false, Bool.false_and, Bool.or_true, Bool.true_or, Bool.or_false, Bool.false_or, beq_self_eq_true, dTT, dFF, dT, dF, bigI, big0, qja, qk8, qk9, List.length_set, List.length_replicate, Int.toNat_natCast, qcz, qc0, imax, imin, decide_true]
      exact IH
    · simp (disch := omega) only [qai, nth0, nth1, nth2, nth3, bit, qc1, qc2, qdd, qdi, qdj, qdk, qdl, qdm, qdn, qdo, qc3, qc4, qc5, qc6, qc7, qc8, qc9, qda, qdb, qdc, qde, qdf, qdg, qdh, qky, qkx, qkz, qjb, qjk, qjm, qgx, qak, qku, nI, qdt, qdr, Bool.not_true, Bool.not_false, Bool.and_true, Bool.true_and, Bool.and_false, Bool.false_and, Bool.or_true, Bool.true_or, Bool.or_false, Bool.false_or, beq_self_eq_true, dTT, dFF, dT, dF, bigI, big0, qja, qk8, qk9, List.length_set, List.length_replicate, Int.toNat_natCast, qcz, qc0, imax, imin]
theorem qbs (k : Nat) (hk : 2000000 ≤ k) (z z' : Bool) (l : List ByteArray) (hl : (l.length : Int) ≤ 1048576) : go (k + 1) laws_eqStringS [.arr false z (.strs l), .arr false z' (.strs l)] = some [.bool true] := by
  rw [qe5]
  have e := qh6 k hk [] z z' l hl (k + 0) 0 (by omega) (by omega)
  simp (disch := omega) only [qai, nth0, nth1, nth2, nth3, bit, qc1, qc2, qdd, qdi, qdj, qdk, qdl, qdm, qdn, qdo, qc3, qc4, qc5, qc6, qc7, qc8, qc9, qda, qdb, qdc, qde, qdf, qdg, qdh, qky, qkx, qkz, qjb, qjk, qjm, qgx, qak, qku, nI, qdt, qdr, Bool.not_true, Bool.not_false, Bool.and_true, Bool.true_and, Bool.and_false, Bool.false_and, Bool.or_true, Bool.true_or, Bool.or_false, Bool.false_or, beq_self_eq_true, dTT, dFF, dT, dF, bigI, big0, qja, qk8, qk9, List.length_set, List.length_replicate, Int.toNat_natCast, qcz, qc0, imax, imin, decide_true]
  exact e
end Go.Proofs.YtjfjniebmdafeaaDoor
end
section
namespace Go.Proofs.YtjfjniebmdafeaaDoor
open Go.Ev
set_option maxRecDepth 20000
theorem qgn (w : Wd) : ((fwT w).length : Int) ≤ 7 := by
  unfold fwT
  cases wdOk w
  · show (([] : List ByteArray).length : Int) ≤ 7; simp
  · show ((fwL w).length : Int) ≤ 7; simp [fwL]
set_option maxHeartbeats 1000000 in
theorem law_FormatWorld (k : Nat) (hk : 2000000 ≤ k) (a0 : Int) (a1z : Bool) (a1 : List (Int × Int × Int)) (a2z : Bool) (a2 : List Int) (a3z : Bool) (a3 : List Int) (a4z : Bool) (a4 : List Int) (a5 : Int) (a6 : Int) (a7 : Int) (a8 : Int) (a9 : Int) (a10 : Int) (a11 : Int) (a12 : Int) (a13 : Int) (a14 : Int) (a15 : Int) (a16 : Int) (a17 : Int) (a18 : Int) (a19 : Int) (a20 : Int) (hl_a1 : (a1.length : Int) ≤ 9223372036854775807) (hl_a2 : (a2.length : Int) ≤ 9223372036854775807) (hl_a3 : (a3.length : Int) ≤ 9223372036854775807) (hl_a4 : (a4.length : Int) ≤ 9223372036854775807) : go (k + 11) laws_FnExactFormatWorld [(.agg [(.int .i64 (a0)), (.arr false (a1z) (.r3 (a1))), (.arr false (a2z) (.ints .i64 (a2))), (.arr false (a3z) (.ints .i64 (a3))), (.arr false (a4z) (.ints .i64 (a4))), (.int .i64 (a5)), (.int .i64 (a6)), (.int .i64 (a7)), (.int .i64 (a8)), (.int .i64 (a9)), (.int .i64 (a10)), (.int .i64 (a11)), (.int .i64 (a12)), (.int .i64 (a13)), (.int .i64 (a14)), (.int .i64 (a15)), (.int .i64 (a16)), (.int .i64 (a17)), (.int .i64 (a18)), (.int .i64 (a19)), (.int .i64 (a20))])] = some [.bool true] := by
  rw [qew]
  by_cases h : (a1.length : Int) + a2.length + a3.length + a4.length ≤ 1048576
  case neg => simp (disch := omega) only [qai, nth0, nth1, nth2, nth3, bit, qc1, qc2, qdd, qdi, qdj, qdk, qdl, qdm, qdn, qdo, qc3, qc4, qc5, qc6, qc7, qc8, qc9, qda, qdb, qdc, qde, qdf, qdg, qdh, qky, qkx, qkz, qjb, qjk, qjm, qgx, qak, qku, nI, qdt, qdr, Bool.not_true, Bool.not_false, Bool.and_true, Bool.true_and, Bool.and_false, Bool.false_and, Bool.or_true, Bool.true_or, Bool.or_false, Bool.false_or, beq_self_eq_true, dTT, dFF, dT, dF, bigI, big0, qja, qk8, qk9, List.length_set, List.length_replicate, Int.toNat_natCast, qcz, qc0, imax, imin, qb6, if_neg h]
  obtain ⟨w, hw⟩ : ∃ w : Wd, w = ⟨a0, (a1, a2, a3), a4, ⟨a5, a6, a7, a8, a9, a10, a11, a12, a13⟩, a14, ⟨a15, a16, a17, a18⟩, a19, a20⟩ := ⟨_, rfl⟩
  have S : Sml w := by subst hw; exact ⟨by show (a1.length : Int) ≤ _; omega, by show (a2.length : Int) ≤ _; omega, by show (a3.length : Int) ≤ _; omega, by show (a4.length : Int) ≤ _; omega⟩
  have eA : ∀ (k : Nat), 2000000 ≤ k → go (k + 9) spec_FormatWorld [.agg [.int .i64 (a0), .arr false false (.r3 (a1)), .arr false false (.ints .i64 (a2)), .arr false false (.ints .i64 (a3)), .arr false false (.ints .i64 (a4)), .int .i64 (a5), .int .i64 (a6), .int .i64 (a7), .int .i64 (a8), .int .i64 (a9), .int .i64 (a10), .int .i64 (a11), .int .i64 (a12), .int .i64 (a13), .int .i64 (a14), .int .i64 (a15), .int .i64 (a16), .int .i64 (a17), .int .i64 (a18), .int .i64 (a19), .int .i64 (a20)]] = some [.arr true false (.strs (fwT w))] := fun k hk => by subst hw; exact qcl k hk ⟨a0, (a1, a2, a3), a4, ⟨a5, a6, a7, a8, a9, a10, a11, a12, a13⟩, a14, ⟨a15, a16, a17, a18⟩, a19, a20⟩ S
  have eB : ∀ (k : Nat), 2000000 ≤ k → go (k + 10) impl_FormatWorld [.agg [.int .i64 (a0), .arr false false (.r3 (a1)), .arr false false (.ints .i64 (a2)), .arr false false (.ints .i64 (a3)), .arr false false (.ints .i64 (a4)), .int .i64 (a5), .int .i64 (a6), .int .i64 (a7), .int .i64 (a8), .int .i64 (a9), .int .i64 (a10), .int .i64 (a11), .int .i64 (a12), .int .i64 (a13), .int .i64 (a14), .int .i64 (a15), .int .i64 (a16), .int .i64 (a17), .int .i64 (a18), .int .i64 (a19), .int .i64 (a20)]] = some [.arr true (!wdOk w) (.strs (fwT w))] := fun k hk => by subst hw; exact qar k hk ⟨a0, (a1, a2, a3), a4, ⟨a5, a6, a7, a8, a9, a10, a11, a12, a13⟩, a14, ⟨a15, a16, a17, a18⟩, a19, a20⟩ S
  have T := qgn w
  generalize fwT w = X at *
  generalize (!wdOk w) = Z at *
  have m1 := qbz (k + 8) (by omega) Z X 1 (by omega) (by omega) (by omega)
  have m2 := qbu (k + 8) (by omega) Z X.length 1 (by omega) (by omega) (by omega)
  rw [show ((1 : Nat) : Int) = 1 from rfl] at m1 m2
  simp (disch := omega) only [qai, nth0, nth1, nth2, nth3, bit, qc1, qc2, qdd, qdi, qdj, qdk, qdl, qdm, qdn, qdo, qc3, qc4, qc5, qc6, qc7, qc8, qc9, qda, qdb, qdc, qde, qdf, qdg, qdh, qky, qkx, qkz, qjb, qjk, qjm, qgx, qak, qku, nI, qdt, qdr, Bool.not_true, Bool.not_false, Bool.and_true, Bool.true_and, Bool.and_false, Bool.false_and, Bool.or_true, Bool.true_or, Bool.or_false, Bool.false_or, beq_self_eq_true, dTT, dFF, dT, dF, bigI, big0, qja, qk8, qk9, List.length_set, List.length_replicate, Int.toNat_natCast, qcz, qc0, imax, imin, qb6, if_pos h, qcf, eA, eB, qbt, qb1, qbs, m1, m2, decide_true]
end Go.Proofs.YtjfjniebmdafeaaDoor
end
