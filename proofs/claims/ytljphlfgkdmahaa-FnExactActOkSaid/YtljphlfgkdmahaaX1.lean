import Derived.Test.YtljphlfgkdmahaaE26
import Derived.Test.YtljphlfgkdmahaaProg
import Derived.KernelRfl
namespace Go.Proofs.Ytljphlfgkdmahaa
open Go Go.Ev
open Go.Proofs
abbrev bit (d : D) : Bool := d.toBool
theorem cond_bool (c x y : Bool) : cond c (some [D.bool x]) (some [D.bool y]) = some [D.bool (cond c x y)] := by cases c <;> rfl
def An : Ann := ⟨fun _ _ => none, fun _ => [], fun _ => false, fun _ => none⟩
-- TOP 7 
theorem e7 (k : Nat) (a0 : Int) (a1 : Int) (a2 : Int) (a3 : Int) : ev Try.prog An (k + 1) 7 [(.agg [(.int .i64 (a0)), (.int .i64 (a1)), (.int .i64 (a2)), (.int .i64 (a3))])] =
  (ev Try.prog An k 26 [(.agg [(.int .i64 (a0)), (.int .i64 (a1)), (.int .i64 (a2)), (.int .i64 (a3))])]).bind fun r0 =>
  (ev Try.prog An k 25 [(.agg [(.int .i64 (D.toInt (D.cell 0 (nth r0 0)))), (.int .i64 (D.toInt (D.cell 1 (nth r0 0)))), (.int .i64 (D.toInt (D.cell 2 (nth r0 0)))), (.int .i64 (D.toInt (D.cell 3 (nth r0 0))))])]).bind fun r1 =>
  (ev Try.prog An k 26 [(.agg [(.int .i64 (a0)), (.int .i64 (a1)), (.int .i64 (a2)), (.int .i64 (a3))])]).bind fun r2 =>
  (ev Try.prog An k 27 [(.agg [(.int .i64 (D.toInt (D.cell 0 (nth r2 0)))), (.int .i64 (D.toInt (D.cell 1 (nth r2 0)))), (.int .i64 (D.toInt (D.cell 2 (nth r2 0)))), (.int .i64 (D.toInt (D.cell 3 (nth r2 0))))])]).bind fun r3 =>
  cond (!bit (nth r3 0) == bit (nth r1 0))
  (some [(.bool (false))])
  (some [(.bool (true))]) := by kernel_rfl
-- TOP 25 
theorem e25 (k : Nat) (a0 : Int) (a1 : Int) (a2 : Int) (a3 : Int) : ev Try.prog An (k + 1) 25 [(.agg [(.int .i64 (a0)), (.int .i64 (a1)), (.int .i64 (a2)), (.int .i64 (a3))])] =
  (ev Try.prog An k 54 [(.agg [(.int .i64 (a0)), (.int .i64 (a1)), (.int .i64 (a2)), (.int .i64 (a3))])]).bind fun r0 =>
  cond (!(decide (a0 = D.toInt (D.cell 0 (nth r0 0))) && (decide (a1 = D.toInt (D.cell 1 (nth r0 0))) && (decide (a2 = D.toInt (D.cell 2 (nth r0 0))) && (decide (a3 = D.toInt (D.cell 3 (nth r0 0))) && true)))))
  (some [(.bool (false))])
  (cond (decide (a0 = (1 : Int)))
    ((ev Try.prog An k 55 [(.int .i64 (a1)), (.int .i64 ((1 : Int))), (.int .i64 ((20 : Int)))]).bind fun r1 =>
      some [(.bool (bit (nth r1 0)))])
    (cond (decide (a0 = (2 : Int)))
      (cond (decide (a0 = (2 : Int)))
        ((ev Try.prog An k 55 [(.int .i64 (a1)), (.int .i64 ((0 : Int))), (.int .i64 ((10000 : Int)))]).bind fun r2 =>
          some [(.bool (bit (nth r2 0)))])
        (cond (decide (a0 = (4 : Int)))
          ((ev Try.prog An k 56 [(.agg [(.int .i64 (a1)), (.int .i64 (a2)), (.int .i64 (a3))])]).bind fun r3 =>
            some [(.bool (bit (nth r3 0)))])
          (cond (decide (a0 = (5 : Int)))
            ((ev Try.prog An k 55 [(.int .i64 (a1)), (.int .i64 ((0 : Int))), (.int .i64 ((1000 : Int)))]).bind fun r4 =>
              some [(.bool (bit (nth r4 0)))])
            (cond (decide (a0 = (6 : Int)))
              ((ev Try.prog An k 55 [(.int .i64 (a1)), (.int .i64 ((0 : Int))), (.int .i64 ((1000000 : Int)))]).bind fun r5 =>
                cond (bit (nth r5 0))
                ((ev Try.prog An k 55 [(.int .i64 (a2)), (.int .i64 ((0 : Int))), (.int .i64 ((1000000 : Int)))]).bind fun r6 =>
                  cond (bit (nth r6 0))
                  ((ev Try.prog An k 55 [(.int .i64 (a3)), (.int .i64 ((0 : Int))), (.int .i64 ((100 : Int)))]).bind fun r7 =>
                    some [(.bool (bit (nth r7 0)))])
                  (some [(.bool (false))]))
                (some [(.bool (false))]))
              (cond (decide (a0 = (7 : Int)))
                ((ev Try.prog An k 55 [(.int .i64 (a1)), (.int .i64 ((0 : Int))), (.int .i64 ((127 : Int)))]).bind fun r8 =>
                  cond (bit (nth r8 0))
                  ((ev Try.prog An k 55 [(.int .i64 (a2)), (.int .i64 ((1 : Int))), (.int .i64 ((10000 : Int)))]).bind fun r9 =>
                    cond (bit (nth r9 0))
                    ((ev Try.prog An k 55 [(.int .i64 (a3)), (.int .i64 ((0 : Int))), (.int .i64 ((1000 : Int)))]).bind fun r10 =>
                      some [(.bool (bit (nth r10 0)))])
                    (some [(.bool (false))]))
                  (some [(.bool (false))]))
                (some [(.bool (false))]))))))
      (cond (decide (a0 = (3 : Int)))
        ((ev Try.prog An k 55 [(.int .i64 (a1)), (.int .i64 ((0 : Int))), (.int .i64 ((10000 : Int)))]).bind fun r11 =>
          some [(.bool (bit (nth r11 0)))])
        (cond (decide (a0 = (4 : Int)))
          ((ev Try.prog An k 56 [(.agg [(.int .i64 (a1)), (.int .i64 (a2)), (.int .i64 (a3))])]).bind fun r12 =>
            some [(.bool (bit (nth r12 0)))])
          (cond (decide (a0 = (5 : Int)))
            ((ev Try.prog An k 55 [(.int .i64 (a1)), (.int .i64 ((0 : Int))), (.int .i64 ((1000 : Int)))]).bind fun r13 =>
              some [(.bool (bit (nth r13 0)))])
            (cond (decide (a0 = (6 : Int)))
              ((ev Try.prog An k 55 [(.int .i64 (a1)), (.int .i64 ((0 : Int))), (.int .i64 ((1000000 : Int)))]).bind fun r14 =>
                cond (bit (nth r14 0))
                ((ev Try.prog An k 55 [(.int .i64 (a2)), (.int .i64 ((0 : Int))), (.int .i64 ((1000000 : Int)))]).bind fun r15 =>
                  cond (bit (nth r15 0))
                  ((ev Try.prog An k 55 [(.int .i64 (a3)), (.int .i64 ((0 : Int))), (.int .i64 ((100 : Int)))]).bind fun r16 =>
                    some [(.bool (bit (nth r16 0)))])
                  (some [(.bool (false))]))
                (some [(.bool (false))]))
              (cond (decide (a0 = (7 : Int)))
                ((ev Try.prog An k 55 [(.int .i64 (a1)), (.int .i64 ((0 : Int))), (.int .i64 ((127 : Int)))]).bind fun r17 =>
                  cond (bit (nth r17 0))
                  ((ev Try.prog An k 55 [(.int .i64 (a2)), (.int .i64 ((1 : Int))), (.int .i64 ((10000 : Int)))]).bind fun r18 =>
                    cond (bit (nth r18 0))
                    ((ev Try.prog An k 55 [(.int .i64 (a3)), (.int .i64 ((0 : Int))), (.int .i64 ((1000 : Int)))]).bind fun r19 =>
                      some [(.bool (bit (nth r19 0)))])
                    (some [(.bool (false))]))
                  (some [(.bool (false))]))
                (some [(.bool (false))])))))))) := by kernel_rfl
-- TOP 26 
theorem e26 (k : Nat) (a0 : Int) (a1 : Int) (a2 : Int) (a3 : Int) : ev Try.prog An (k + 1) 26 [(.agg [(.int .i64 (a0)), (.int .i64 (a1)), (.int .i64 (a2)), (.int .i64 (a3))])] =
  some [(.agg [(.int .i64 (a0)), (.int .i64 (a1)), (.int .i64 (a2)), (.int .i64 (a3))])] := by kernel_rfl
-- TOP 27 
theorem e27 (k : Nat) (a0 : Int) (a1 : Int) (a2 : Int) (a3 : Int) : ev Try.prog An (k + 1) 27 [(.agg [(.int .i64 (a0)), (.int .i64 (a1)), (.int .i64 (a2)), (.int .i64 (a3))])] =
  cond (decide (a2 = (0 : Int)))
  (cond (decide (a0 = (1 : Int)))
    (cond (decide (a3 = (0 : Int)))
      ((ev Try.prog An k 57 [(.int .i64 (a1)), (.int .i64 ((1 : Int))), (.int .i64 ((20 : Int)))]).bind fun r0 =>
        some [(.bool (bit (nth r0 0)))])
      (some [(.bool (false))]))
    (cond (decide (a0 = (2 : Int)))
      (cond (decide (a0 = (2 : Int)))
        (cond (decide (a3 = (0 : Int)))
          ((ev Try.prog An k 58 [(.int .i64 (a1))]).bind fun r1 =>
            some [(.bool (bit (nth r1 0)))])
          (some [(.bool (false))]))
        (cond (decide (a0 = (4 : Int)))
          ((ev Try.prog An k 59 [(.agg [(.int .i64 (a1)), (.int .i64 (a2)), (.int .i64 (a3))])]).bind fun r2 =>
            some [(.bool (bit (nth r2 0)))])
          (cond (decide (a0 = (5 : Int)))
            (cond (decide (a3 = (0 : Int)))
              ((ev Try.prog An k 60 [(.int .i64 (a1))]).bind fun r3 =>
                some [(.bool (bit (nth r3 0)))])
              (some [(.bool (false))]))
            (cond (decide (a0 = (6 : Int)))
              ((ev Try.prog An k 57 [(.int .i64 (a1)), (.int .i64 ((0 : Int))), (.int .i64 ((1000000 : Int)))]).bind fun r4 =>
                cond (bit (nth r4 0))
                ((ev Try.prog An k 57 [(.int .i64 (a2)), (.int .i64 ((0 : Int))), (.int .i64 ((1000000 : Int)))]).bind fun r5 =>
                  cond (bit (nth r5 0))
                  ((ev Try.prog An k 57 [(.int .i64 (a3)), (.int .i64 ((0 : Int))), (.int .i64 ((100 : Int)))]).bind fun r6 =>
                    some [(.bool (bit (nth r6 0)))])
                  (some [(.bool (false))]))
                (some [(.bool (false))]))
              (cond (decide (a0 = (7 : Int)))
                ((ev Try.prog An k 57 [(.int .i64 (a1)), (.int .i64 ((0 : Int))), (.int .i64 ((127 : Int)))]).bind fun r7 =>
                  cond (bit (nth r7 0))
                  ((ev Try.prog An k 57 [(.int .i64 (a2)), (.int .i64 ((1 : Int))), (.int .i64 ((10000 : Int)))]).bind fun r8 =>
                    cond (bit (nth r8 0))
                    ((ev Try.prog An k 57 [(.int .i64 (a3)), (.int .i64 ((0 : Int))), (.int .i64 ((1000 : Int)))]).bind fun r9 =>
                      some [(.bool (bit (nth r9 0)))])
                    (some [(.bool (false))]))
                  (some [(.bool (false))]))
                (some [(.bool (false))]))))))
      (cond (decide (a0 = (3 : Int)))
        (cond (decide (a3 = (0 : Int)))
          ((ev Try.prog An k 58 [(.int .i64 (a1))]).bind fun r10 =>
            some [(.bool (bit (nth r10 0)))])
          (some [(.bool (false))]))
        (cond (decide (a0 = (4 : Int)))
          ((ev Try.prog An k 59 [(.agg [(.int .i64 (a1)), (.int .i64 (a2)), (.int .i64 (a3))])]).bind fun r11 =>
            some [(.bool (bit (nth r11 0)))])
          (cond (decide (a0 = (5 : Int)))
            (cond (decide (a3 = (0 : Int)))
              ((ev Try.prog An k 60 [(.int .i64 (a1))]).bind fun r12 =>
                some [(.bool (bit (nth r12 0)))])
              (some [(.bool (false))]))
            (cond (decide (a0 = (6 : Int)))
              ((ev Try.prog An k 57 [(.int .i64 (a1)), (.int .i64 ((0 : Int))), (.int .i64 ((1000000 : Int)))]).bind fun r13 =>
                cond (bit (nth r13 0))
                ((ev Try.prog An k 57 [(.int .i64 (a2)), (.int .i64 ((0 : Int))), (.int .i64 ((1000000 : Int)))]).bind fun r14 =>
                  cond (bit (nth r14 0))
                  ((ev Try.prog An k 57 [(.int .i64 (a3)), (.int .i64 ((0 : Int))), (.int .i64 ((100 : Int)))]).bind fun r15 =>
                    some [(.bool (bit (nth r15 0)))])
                  (some [(.bool (false))]))
                (some [(.bool (false))]))
              (cond (decide (a0 = (7 : Int)))
                ((ev Try.prog An k 57 [(.int .i64 (a1)), (.int .i64 ((0 : Int))), (.int .i64 ((127 : Int)))]).bind fun r16 =>
                  cond (bit (nth r16 0))
                  ((ev Try.prog An k 57 [(.int .i64 (a2)), (.int .i64 ((1 : Int))), (.int .i64 ((10000 : Int)))]).bind fun r17 =>
                    cond (bit (nth r17 0))
                    ((ev Try.prog An k 57 [(.int .i64 (a3)), (.int .i64 ((0 : Int))), (.int .i64 ((1000 : Int)))]).bind fun r18 =>
                      some [(.bool (bit (nth r18 0)))])
                    (some [(.bool (false))]))
                  (some [(.bool (false))]))
                (some [(.bool (false))]))))))))
  (cond (decide (a0 = (1 : Int)))
    (some [(.bool (false))])
    (cond (decide (a0 = (2 : Int)))
      (cond (decide (a0 = (2 : Int)))
        (some [(.bool (false))])
        (cond (decide (a0 = (4 : Int)))
          ((ev Try.prog An k 59 [(.agg [(.int .i64 (a1)), (.int .i64 (a2)), (.int .i64 (a3))])]).bind fun r19 =>
            some [(.bool (bit (nth r19 0)))])
          (cond (decide (a0 = (5 : Int)))
            (some [(.bool (false))])
            (cond (decide (a0 = (6 : Int)))
              ((ev Try.prog An k 57 [(.int .i64 (a1)), (.int .i64 ((0 : Int))), (.int .i64 ((1000000 : Int)))]).bind fun r20 =>
                cond (bit (nth r20 0))
                ((ev Try.prog An k 57 [(.int .i64 (a2)), (.int .i64 ((0 : Int))), (.int .i64 ((1000000 : Int)))]).bind fun r21 =>
                  cond (bit (nth r21 0))
                  ((ev Try.prog An k 57 [(.int .i64 (a3)), (.int .i64 ((0 : Int))), (.int .i64 ((100 : Int)))]).bind fun r22 =>
                    some [(.bool (bit (nth r22 0)))])
                  (some [(.bool (false))]))
                (some [(.bool (false))]))
              (cond (decide (a0 = (7 : Int)))
                ((ev Try.prog An k 57 [(.int .i64 (a1)), (.int .i64 ((0 : Int))), (.int .i64 ((127 : Int)))]).bind fun r23 =>
                  cond (bit (nth r23 0))
                  ((ev Try.prog An k 57 [(.int .i64 (a2)), (.int .i64 ((1 : Int))), (.int .i64 ((10000 : Int)))]).bind fun r24 =>
                    cond (bit (nth r24 0))
                    ((ev Try.prog An k 57 [(.int .i64 (a3)), (.int .i64 ((0 : Int))), (.int .i64 ((1000 : Int)))]).bind fun r25 =>
                      some [(.bool (bit (nth r25 0)))])
                    (some [(.bool (false))]))
                  (some [(.bool (false))]))
                (some [(.bool (false))]))))))
      (cond (decide (a0 = (3 : Int)))
        (some [(.bool (false))])
        (cond (decide (a0 = (4 : Int)))
          ((ev Try.prog An k 59 [(.agg [(.int .i64 (a1)), (.int .i64 (a2)), (.int .i64 (a3))])]).bind fun r26 =>
            some [(.bool (bit (nth r26 0)))])
          (cond (decide (a0 = (5 : Int)))
            (some [(.bool (false))])
            (cond (decide (a0 = (6 : Int)))
              ((ev Try.prog An k 57 [(.int .i64 (a1)), (.int .i64 ((0 : Int))), (.int .i64 ((1000000 : Int)))]).bind fun r27 =>
                cond (bit (nth r27 0))
                ((ev Try.prog An k 57 [(.int .i64 (a2)), (.int .i64 ((0 : Int))), (.int .i64 ((1000000 : Int)))]).bind fun r28 =>
                  cond (bit (nth r28 0))
                  ((ev Try.prog An k 57 [(.int .i64 (a3)), (.int .i64 ((0 : Int))), (.int .i64 ((100 : Int)))]).bind fun r29 =>
                    some [(.bool (bit (nth r29 0)))])
                  (some [(.bool (false))]))
                (some [(.bool (false))]))
              (cond (decide (a0 = (7 : Int)))
                ((ev Try.prog An k 57 [(.int .i64 (a1)), (.int .i64 ((0 : Int))), (.int .i64 ((127 : Int)))]).bind fun r30 =>
                  cond (bit (nth r30 0))
                  ((ev Try.prog An k 57 [(.int .i64 (a2)), (.int .i64 ((1 : Int))), (.int .i64 ((10000 : Int)))]).bind fun r31 =>
                    cond (bit (nth r31 0))
                    ((ev Try.prog An k 57 [(.int .i64 (a3)), (.int .i64 ((0 : Int))), (.int .i64 ((1000 : Int)))]).bind fun r32 =>
                      some [(.bool (bit (nth r32 0)))])
                    (some [(.bool (false))]))
                  (some [(.bool (false))]))
                (some [(.bool (false))])))))))) := by kernel_rfl
-- TOP 54 
theorem e54 (k : Nat) (a0 : Int) (a1 : Int) (a2 : Int) (a3 : Int) : ev Try.prog An (k + 1) 54 [(.agg [(.int .i64 (a0)), (.int .i64 (a1)), (.int .i64 (a2)), (.int .i64 (a3))])] =
  cond (decide (a0 = (4 : Int)))
  (some [(.agg [(.int .i64 (a0)), (.int .i64 (a1)), (.int .i64 (a2)), (.int .i64 (a3))])])
  (cond (decide (a0 = (6 : Int)))
    (some [(.agg [(.int .i64 (a0)), (.int .i64 (a1)), (.int .i64 (a2)), (.int .i64 (a3))])])
    (cond (decide (a0 = (7 : Int)))
      (some [(.agg [(.int .i64 (a0)), (.int .i64 (a1)), (.int .i64 (a2)), (.int .i64 (a3))])])
      (some [(.agg [(.int .i64 (a0)), (.int .i64 (a1)), (.int .i64 ((0 : Int))), (.int .i64 ((0 : Int)))])]))) := by kernel_rfl
-- TOP 55 
theorem e55 (k : Nat) (a : Int) (b : Int) (c : Int) : ev Try.prog An (k + 1) 55 [(.int .i64 (a)), (.int .i64 (b)), (.int .i64 (c))] =
  cond (decide (b ≤ a))
  (some [(.bool (decide (a ≤ c)))])
  (some [(.bool (false))]) := by kernel_rfl
-- TOP 56 
theorem e56 (k : Nat) (a0 : Int) (a1 : Int) (a2 : Int) : ev Try.prog An (k + 1) 56 [(.agg [(.int .i64 (a0)), (.int .i64 (a1)), (.int .i64 (a2))])] =
  (ev Try.prog An k 55 [(.int .i64 (a0)), (.int .i64 ((0 : Int))), (.int .i64 ((10000 : Int)))]).bind fun r0 =>
  cond (bit (nth r0 0))
  ((ev Try.prog An k 55 [(.int .i64 (a1)), (.int .i64 ((0 : Int))), (.int .i64 ((1000 : Int)))]).bind fun r1 =>
    cond (bit (nth r1 0))
    ((ev Try.prog An k 55 [(.int .i64 (a2)), (.int .i64 ((0 : Int))), (.int .i64 ((250 : Int)))]).bind fun r2 =>
      some [(.bool (bit (nth r2 0)))])
    (some [(.bool (false))]))
  (some [(.bool (false))]) := by kernel_rfl
-- TOP 57 
theorem e57 (k : Nat) (a : Int) (b : Int) (c : Int) : ev Try.prog An (k + 1) 57 [(.int .i64 (a)), (.int .i64 (b)), (.int .i64 (c))] =
  cond (decide (b ≤ a))
  (some [(.bool (decide (a ≤ c)))])
  (some [(.bool (false))]) := by kernel_rfl
-- TOP 58 
theorem e58 (k : Nat) (a : Int) : ev Try.prog An (k + 1) 58 [(.int .i64 (a))] =
  (ev Try.prog An k 57 [(.int .i64 (a)), (.int .i64 ((0 : Int))), (.int .i64 ((10000 : Int)))]).bind fun r0 =>
  some [(.bool (bit (nth r0 0)))] := by kernel_rfl
-- TOP 59 
theorem e59 (k : Nat) (a0 : Int) (a1 : Int) (a2 : Int) : ev Try.prog An (k + 1) 59 [(.agg [(.int .i64 (a0)), (.int .i64 (a1)), (.int .i64 (a2))])] =
  (ev Try.prog An k 57 [(.int .i64 (a0)), (.int .i64 ((0 : Int))), (.int .i64 ((10000 : Int)))]).bind fun r0 =>
  cond (bit (nth r0 0))
  ((ev Try.prog An k 57 [(.int .i64 (a1)), (.int .i64 ((0 : Int))), (.int .i64 ((1000 : Int)))]).bind fun r1 =>
    cond (bit (nth r1 0))
    ((ev Try.prog An k 57 [(.int .i64 (a2)), (.int .i64 ((0 : Int))), (.int .i64 ((250 : Int)))]).bind fun r2 =>
      some [(.bool (bit (nth r2 0)))])
    (some [(.bool (false))]))
  (some [(.bool (false))]) := by kernel_rfl
-- TOP 60 
theorem e60 (k : Nat) (a : Int) : ev Try.prog An (k + 1) 60 [(.int .i64 (a))] =
  (ev Try.prog An k 57 [(.int .i64 (a)), (.int .i64 ((0 : Int))), (.int .i64 ((1000 : Int)))]).bind fun r0 =>
  some [(.bool (bit (nth r0 0)))] := by kernel_rfl
theorem c55 (k : Nat) (a b c : Int) : ev Try.prog An (k + 1) 55 [.int .i64 a, .int .i64 b, .int .i64 c] = some [.bool (decide (b ≤ a) && decide (a ≤ c))] := by
  rw [e55]; cases decide (b ≤ a) <;> rfl
theorem c57 (k : Nat) (a b c : Int) : ev Try.prog An (k + 1) 57 [.int .i64 a, .int .i64 b, .int .i64 c] = some [.bool (decide (b ≤ a) && decide (a ≤ c))] := by
  rw [e57]; cases decide (b ≤ a) <;> rfl
theorem act_true (k : Nat) (a0 a1 a2 a3 : Int) : ev Try.prog An (k + 5) 7 [(.agg [(.int .i64 (a0)), (.int .i64 (a1)), (.int .i64 (a2)), (.int .i64 (a3))])] = some [.bool true] := by
  have c54 : ∀ k, ev Try.prog An (k + 1) 54 [(.agg [(.int .i64 (a0)), (.int .i64 (a1)), (.int .i64 (a2)), (.int .i64 (a3))])] =
      some [(.agg [(.int .i64 (a0)), (.int .i64 (a1)), (.int .i64 (if a0 = 4 ∨ a0 = 6 ∨ a0 = 7 then a2 else 0)), (.int .i64 (if a0 = 4 ∨ a0 = 6 ∨ a0 = 7 then a3 else 0))])] := by
    intro k; rw [e54]
    by_cases h4 : a0 = 4 <;> by_cases h6 : a0 = 6 <;> by_cases h7 : a0 = 7 <;> simp [h4, h6, h7]
  simp only [e7, e25, e26, e27, c54, e56, e59, e58, e60, c55, c57, nth, List.getD_cons_zero, D.cell, List.getD_cons_succ, D.toInt, D.toBool, Option.bind_some, bit, cond_bool]
  congr 3
  by_cases h1 : a0 = 1 <;> by_cases h2 : a0 = 2 <;> by_cases h3 : a0 = 3 <;> by_cases h4 : a0 = 4 <;> by_cases h5 : a0 = 5 <;> by_cases h6 : a0 = 6 <;> by_cases h7 : a0 = 7 <;> try omega
  all_goals simp [h1, h2, h3, h4, h5, h6, h7, Bool.and_assoc]
end Go.Proofs.Ytljphlfgkdmahaa
