/- Cones and influence: the laws, one step each. -/
import Derived.Test.YtaoffhlajfkccaaXA
namespace Go.Proofs.Ytaoffhlajfkccaa
open Go.Ev
set_option linter.unusedVariables false
def s_laws_FnCones_12 (x0 : Int) (x1 : Int) (x2 : Int) (x3 : Int) (x4 : Int) (x5 : Int) (z6 : Bool) (l7 : List (Int × Int × Int)) (x8 : Int) (z9 : Bool) (l10 : List Bool) : St := ⟨fill 107 [(3, (.ptr 1 (0) (0))), (5, (.int .i64 (x0))), (6, (.int .i64 (x1))), (7, (.int .i64 (x2))), (8, (.int .i64 (x3))), (9, (.sl 2 none)), (10, (.int .i64 (x4))), (11, (.int .i64 (x5)))], [], [(.arr true (z6) (.r3 (l7))), (.box true [(.int .i64 (x8)), (.sl 0 none)]), (.arr true (z9) (.bools (l10)))]⟩
theorem e_laws_FnCones (k : Nat) (az : Bool) (a : List Int) : go (k + 1) laws_FnCones [(.arr false (az) (.ints IntKind.u8 (a)))] =
    (go k laws_big [(.arr false (az) (.ints IntKind.u8 (a)))]).bind fun r0 =>
  cond (bit (nth r0 0))
  (some [(.bool (true))])
  ((go k spec_DrawBalanced [(.arr false (az) (.ints IntKind.u8 (a)))]).bind fun r1 =>
    (go k spec_DrawPlaces [(.arr false (az) (.ints IntKind.u8 (a)))]).bind fun r2 =>
    cond (decide ((0 : Int) ≤ (0 : Int)) && decide ((0 : Int) < nI (List.length (D.ints (nth r2 0)))))
    (cond (!decide (nI (List.length (D.r3 (D.cell 1 (nth r1 0)))) = (0 : Int)))
      (cond (decide ((0 : Int) ≤ (1 : Int)) && decide ((1 : Int) < nI (List.length (D.ints (nth r2 0)))))
        ((go k impl_ConeWidth [(.agg [(.int .i64 (D.toInt (D.cell 0 (nth r1 0)))), (.arr false (D.nil (D.cell 1 (nth r1 0))) (.r3 (D.r3 (D.cell 1 (nth r1 0)))))]), (.int .i64 (Int.tmod (List.getD (D.ints (nth r2 0)) (Int.toNat (0 : Int)) (0 : Int)) (nI (List.length (D.r3 (D.cell 1 (nth r1 0))))))), (.int .i64 (Int.tmod (List.getD (D.ints (nth r2 0)) (Int.toNat (1 : Int)) (0 : Int)) (20 : Int)))]).bind fun r3 =>
          (go k impl_ConeWidth [(.agg [(.int .i64 (D.toInt (D.cell 0 (nth r1 0)))), (.arr false (D.nil (D.cell 1 (nth r1 0))) (.r3 (D.r3 (D.cell 1 (nth r1 0)))))]), (.int .i64 (Int.tmod (List.getD (D.ints (nth r2 0)) (Int.toNat (0 : Int)) (0 : Int)) (nI (List.length (D.r3 (D.cell 1 (nth r1 0))))))), (.int .i64 (IntKind.wrap .i64 (Int.tmod (List.getD (D.ints (nth r2 0)) (Int.toNat (1 : Int)) (0 : Int)) (20 : Int) + (1 : Int))))]).bind fun r4 =>
          (go k impl_Reached [(.agg [(.int .i64 (D.toInt (D.cell 0 (nth r1 0)))), (.arr false (D.nil (D.cell 1 (nth r1 0))) (.r3 (D.r3 (D.cell 1 (nth r1 0)))))]), (.int .i64 (Int.tmod (List.getD (D.ints (nth r2 0)) (Int.toNat (0 : Int)) (0 : Int)) (nI (List.length (D.r3 (D.cell 1 (nth r1 0))))))), (.int .i64 ((0 : Int))), (.int .i64 (Int.tmod (List.getD (D.ints (nth r2 0)) (Int.toNat (1 : Int)) (0 : Int)) (20 : Int)))]).bind fun r5 =>
          (go k impl_SafeDistance [(.agg [(.int .i64 (D.toInt (D.cell 0 (nth r1 0)))), (.arr false (D.nil (D.cell 1 (nth r1 0))) (.r3 (D.r3 (D.cell 1 (nth r1 0)))))]), (.int .i64 (Int.tmod (List.getD (D.ints (nth r2 0)) (Int.toNat (1 : Int)) (0 : Int)) (20 : Int)))]).bind fun r6 =>
          lp k laws_FnCones [] [] 12 k (s_laws_FnCones_12 (Int.tmod (List.getD (D.ints (nth r2 0)) (Int.toNat (0 : Int)) (0 : Int)) (nI (List.length (D.r3 (D.cell 1 (nth r1 0)))))) (Int.tmod (List.getD (D.ints (nth r2 0)) (Int.toNat (1 : Int)) (0 : Int)) (20 : Int)) (D.toInt (nth r3 0)) (D.toInt (nth r4 0)) (D.toInt (nth r6 0)) ((0 : Int)) (D.nil (D.cell 1 (nth r1 0))) (D.r3 (D.cell 1 (nth r1 0))) (D.toInt (D.cell 0 (nth r1 0))) (D.nil (nth r5 0)) (D.bools (nth r5 0))))
        (none))
      (none))
    (none)) := by kernel_rfl
theorem l_laws_FnCones_12 (k n : Nat) (fu : List (Nat × Nat)) (x0 : Int) (x1 : Int) (x2 : Int) (x3 : Int) (x4 : Int) (x5 : Int) (z6 : Bool) (l7 : List (Int × Int × Int)) (x8 : Int) (z9 : Bool) (l10 : List Bool) : lp k laws_FnCones [] fu 12 (n + 1) (s_laws_FnCones_12 x0 x1 x2 x3 x4 x5 z6 l7 x8 z9 l10) =
    cond (decide (x5 < nI (List.length l10)))
  (cond (decide ((0 : Int) ≤ x5) && decide (x5 < nI (List.length l10)))
    (cond (List.getD l10 (Int.toNat x5) false)
      (cond (decide (IntKind.wrap .i64 ((2 : Int) * x1) < IntKind.wrap .i64 (x5 - x0)))
        (some [(.bool (false))])
        (cond (decide (x1 < IntKind.wrap .i64 (x0 - x5)))
          (some [(.bool (false))])
          (cond (decide (x4 < IntKind.wrap .i64 (x5 - x0)))
            (some [(.bool (false))])
            (cond (decide (x4 < IntKind.wrap .i64 (x0 - x5)))
              (some [(.bool (false))])
              (lp k laws_FnCones [] fu 12 n (s_laws_FnCones_12 x0 x1 x2 x3 x4 (IntKind.wrap .i64 (x5 + (1 : Int))) z6 l7 x8 z9 l10))))))
      (lp k laws_FnCones [] fu 12 n (s_laws_FnCones_12 x0 x1 x2 x3 x4 (IntKind.wrap .i64 (x5 + (1 : Int))) z6 l7 x8 z9 l10)))
    (none))
  (cond (decide (nI (List.length l10) = nI (List.length l7)))
    (cond (decide ((1 : Int) ≤ x2))
      (cond (decide (x2 ≤ x3))
        (cond (decide ((0 : Int) < x1))
          (some [(.bool (true))])
          (some [(.bool (decide (x2 = (1 : Int))))]))
        (some [(.bool (false))]))
      (some [(.bool (false))]))
    (some [(.bool (false))])) := by kernel_rfl
def s_laws_FnInfluence_15 (x0 : Int) (x1 : Int) (x2 : Int) (x3 : Int) (z4 : Bool) (l5 : List Bool) (z6 : Bool) (l7 : List (Int × Int × Int)) (z8 : Bool) (l9 : List Int) (z10 : Bool) (l11 : List Int) (z12 : Bool) (l13 : List Int) (x14 : Int) (z15 : Bool) (l16 : List (Int × Int × Int)) (z17 : Bool) (l18 : List Int) (z19 : Bool) (l20 : List Int) (z21 : Bool) (l22 : List Int) (x23 : Int) : St := ⟨fill 107 [(5, (.int .i64 (x0))), (6, (.int .i64 (x1))), (7, (.int .i64 (x2))), (8, (.sl 0 none)), (11, (.ptr 5 (0) (0))), (12, (.ptr 10 (0) (0))), (13, (.int .i64 (x3)))], [], [(.arr true (z4) (.bools (l5))), (.arr true (z6) (.r3 (l7))), (.arr true (z8) (.ints .i64 (l9))), (.arr true (z10) (.ints .i64 (l11))), (.arr true (z12) (.ints .i64 (l13))), (.box true [(.int .i64 (x14)), (.sl 1 none), (.sl 2 none), (.sl 3 none), (.sl 4 none)]), (.arr true (z15) (.r3 (l16))), (.arr true (z17) (.ints .i64 (l18))), (.arr true (z19) (.ints .i64 (l20))), (.arr true (z21) (.ints .i64 (l22))), (.box true [(.int .i64 (x23)), (.sl 6 none), (.sl 7 none), (.sl 8 none), (.sl 9 none)])]⟩
theorem e_laws_FnInfluence (k : Nat) (az : Bool) (a : List Int) : go (k + 1) laws_FnInfluence [(.arr false (az) (.ints IntKind.u8 (a)))] =
    (go k laws_big [(.arr false (az) (.ints IntKind.u8 (a)))]).bind fun r0 =>
  cond (bit (nth r0 0))
  (some [(.bool (true))])
  ((go k spec_DrawState [(.arr false (az) (.ints IntKind.u8 (a)))]).bind fun r1 =>
    (go k spec_DrawPlaces [(.arr false (az) (.ints IntKind.u8 (a)))]).bind fun r2 =>
    cond (decide ((0 : Int) ≤ (0 : Int)) && decide ((0 : Int) < nI (List.length (D.ints (nth r2 0)))))
    (cond (!decide (nI (List.length (D.ints (D.cell 2 (nth r1 0)))) = (0 : Int)))
      (cond (decide ((0 : Int) ≤ (1 : Int)) && decide ((1 : Int) < nI (List.length (D.ints (nth r2 0)))))
        (cond (!decide (nI (List.length (D.ints (D.cell 2 (nth r1 0)))) = (0 : Int)))
          (cond (decide ((0 : Int) ≤ (2 : Int)) && decide ((2 : Int) < nI (List.length (D.ints (nth r2 0)))))
            ((go k impl_Reached [(.agg [(.int .i64 (D.toInt (D.cell 0 (nth r1 0)))), (.arr false (D.nil (D.cell 1 (nth r1 0))) (.r3 (D.r3 (D.cell 1 (nth r1 0)))))]), (.int .i64 (Int.tmod (List.getD (D.ints (nth r2 0)) (Int.toNat (0 : Int)) (0 : Int)) (nI (List.length (D.ints (D.cell 2 (nth r1 0))))))), (.int .i64 ((0 : Int))), (.int .i64 (Int.tmod (List.getD (D.ints (nth r2 0)) (Int.toNat (2 : Int)) (0 : Int)) (8 : Int)))]).bind fun r3 =>
              cond (!decide (nI (List.length (D.bools (nth r3 0))) = nI (List.length (D.ints (D.cell 2 (nth r1 0))))))
              (some [(.bool (false))])
              (cond (decide ((0 : Int) ≤ Int.tmod (List.getD (D.ints (nth r2 0)) (Int.toNat (0 : Int)) (0 : Int)) (nI (List.length (D.ints (D.cell 2 (nth r1 0)))))) && decide (Int.tmod (List.getD (D.ints (nth r2 0)) (Int.toNat (0 : Int)) (0 : Int)) (nI (List.length (D.ints (D.cell 2 (nth r1 0))))) < nI (List.length (D.bools (nth r3 0)))))
                (cond (!List.getD (D.bools (nth r3 0)) (Int.toNat (Int.tmod (List.getD (D.ints (nth r2 0)) (Int.toNat (0 : Int)) (0 : Int)) (nI (List.length (D.ints (D.cell 2 (nth r1 0))))))) false)
                  (some [(.bool (false))])
                  (cond (decide ((0 : Int) ≤ Int.tmod (List.getD (D.ints (nth r2 0)) (Int.toNat (1 : Int)) (0 : Int)) (nI (List.length (D.ints (D.cell 2 (nth r1 0)))))) && decide (Int.tmod (List.getD (D.ints (nth r2 0)) (Int.toNat (1 : Int)) (0 : Int)) (nI (List.length (D.ints (D.cell 2 (nth r1 0))))) < nI (List.length (D.ints (D.cell 2 (nth r1 0))))))
                    (cond (decide ((0 : Int) ≤ (3 : Int)) && decide ((3 : Int) < nI (List.length (D.ints (nth r2 0)))))
                      (cond (decide ((0 : Int) ≤ Int.tmod (List.getD (D.ints (nth r2 0)) (Int.toNat (1 : Int)) (0 : Int)) (nI (List.length (D.ints (D.cell 2 (nth r1 0)))))) && decide (Int.tmod (List.getD (D.ints (nth r2 0)) (Int.toNat (1 : Int)) (0 : Int)) (nI (List.length (D.ints (D.cell 2 (nth r1 0))))) < nI (List.length (D.ints (D.cell 3 (nth r1 0))))))
                        ((go k spec_PutCell [(.agg [(.int .i64 (D.toInt (D.cell 0 (nth r1 0)))), (.arr false (D.nil (D.cell 1 (nth r1 0))) (.r3 (D.r3 (D.cell 1 (nth r1 0))))), (.arr false (D.nil (D.cell 2 (nth r1 0))) (.ints .i64 (D.ints (D.cell 2 (nth r1 0))))), (.arr false (D.nil (D.cell 3 (nth r1 0))) (.ints .i64 (D.ints (D.cell 3 (nth r1 0))))), (.arr false (D.nil (D.cell 4 (nth r1 0))) (.ints .i64 (D.ints (D.cell 4 (nth r1 0)))))]), (.int .i64 (Int.tmod (List.getD (D.ints (nth r2 0)) (Int.toNat (1 : Int)) (0 : Int)) (nI (List.length (D.ints (D.cell 2 (nth r1 0))))))), (.int .i64 (IntKind.wrap .i64 (IntKind.wrap .i64 (List.getD (D.ints (D.cell 2 (nth r1 0))) (Int.toNat (Int.tmod (List.getD (D.ints (nth r2 0)) (Int.toNat (1 : Int)) (0 : Int)) (nI (List.length (D.ints (D.cell 2 (nth r1 0))))))) (0 : Int) + (1 : Int)) + List.getD (D.ints (nth r2 0)) (Int.toNat (3 : Int)) (0 : Int)))), (.int .i64 (List.getD (D.ints (D.cell 3 (nth r1 0))) (Int.toNat (Int.tmod (List.getD (D.ints (nth r2 0)) (Int.toNat (1 : Int)) (0 : Int)) (nI (List.length (D.ints (D.cell 2 (nth r1 0))))))) (0 : Int)))]).bind fun r4 =>
                          lp k laws_FnInfluence [] [] 15 k (s_laws_FnInfluence_15 (Int.tmod (List.getD (D.ints (nth r2 0)) (Int.toNat (0 : Int)) (0 : Int)) (nI (List.length (D.ints (D.cell 2 (nth r1 0)))))) (Int.tmod (List.getD (D.ints (nth r2 0)) (Int.toNat (1 : Int)) (0 : Int)) (nI (List.length (D.ints (D.cell 2 (nth r1 0)))))) (Int.tmod (List.getD (D.ints (nth r2 0)) (Int.toNat (2 : Int)) (0 : Int)) (8 : Int)) ((0 : Int)) (D.nil (nth r3 0)) (D.bools (nth r3 0)) (D.nil (D.cell 1 (nth r1 0))) (D.r3 (D.cell 1 (nth r1 0))) (D.nil (D.cell 2 (nth r1 0))) (D.ints (D.cell 2 (nth r1 0))) (D.nil (D.cell 3 (nth r1 0))) (D.ints (D.cell 3 (nth r1 0))) (D.nil (D.cell 4 (nth r1 0))) (D.ints (D.cell 4 (nth r1 0))) (D.toInt (D.cell 0 (nth r1 0))) (D.nil (D.cell 1 (nth r4 0))) (D.r3 (D.cell 1 (nth r4 0))) (D.nil (D.cell 2 (nth r4 0))) (D.ints (D.cell 2 (nth r4 0))) (D.nil (D.cell 3 (nth r4 0))) (D.ints (D.cell 3 (nth r4 0))) (D.nil (D.cell 4 (nth r4 0))) (D.ints (D.cell 4 (nth r4 0))) (D.toInt (D.cell 0 (nth r4 0)))))
                        (none))
                      (none))
                    (none)))
                (none)))
            (none))
          (none))
        (none))
      (none))
    (none)) := by kernel_rfl
theorem l_laws_FnInfluence_15 (k n : Nat) (fu : List (Nat × Nat)) (x0 : Int) (x1 : Int) (x2 : Int) (x3 : Int) (z4 : Bool) (l5 : List Bool) (z6 : Bool) (l7 : List (Int × Int × Int)) (z8 : Bool) (l9 : List Int) (z10 : Bool) (l11 : List Int) (z12 : Bool) (l13 : List Int) (x14 : Int) (z15 : Bool) (l16 : List (Int × Int × Int)) (z17 : Bool) (l18 : List Int) (z19 : Bool) (l20 : List Int) (z21 : Bool) (l22 : List Int) (x23 : Int) : lp k laws_FnInfluence [] fu 15 (n + 1) (s_laws_FnInfluence_15 x0 x1 x2 x3 z4 l5 z6 l7 z8 l9 z10 l11 z12 l13 x14 z15 l16 z17 l18 z19 l20 z21 l22 x23) =
    cond (decide (x3 < x2))
  ((go k spec_StepState [(.agg [(.int .i64 (x14)), (.arr false (z6) (.r3 (l7))), (.arr false (z8) (.ints .i64 (l9))), (.arr false (z10) (.ints .i64 (l11))), (.arr false (z12) (.ints .i64 (l13)))]), (.int .i64 (x3))]).bind fun r0 =>
    (go k spec_StepState [(.agg [(.int .i64 (x23)), (.arr false (z15) (.r3 (l16))), (.arr false (z17) (.ints .i64 (l18))), (.arr false (z19) (.ints .i64 (l20))), (.arr false (z21) (.ints .i64 (l22)))]), (.int .i64 (x3))]).bind fun r1 =>
    lp k laws_FnInfluence [] fu 15 n (s_laws_FnInfluence_15 x0 x1 x2 (IntKind.wrap .i64 (x3 + (1 : Int))) z4 l5 (D.nil (D.cell 1 (nth r0 0))) (D.r3 (D.cell 1 (nth r0 0))) (D.nil (D.cell 2 (nth r0 0))) (D.ints (D.cell 2 (nth r0 0))) (D.nil (D.cell 3 (nth r0 0))) (D.ints (D.cell 3 (nth r0 0))) (D.nil (D.cell 4 (nth r0 0))) (D.ints (D.cell 4 (nth r0 0))) (D.toInt (D.cell 0 (nth r0 0))) (D.nil (D.cell 1 (nth r1 0))) (D.r3 (D.cell 1 (nth r1 0))) (D.nil (D.cell 2 (nth r1 0))) (D.ints (D.cell 2 (nth r1 0))) (D.nil (D.cell 3 (nth r1 0))) (D.ints (D.cell 3 (nth r1 0))) (D.nil (D.cell 4 (nth r1 0))) (D.ints (D.cell 4 (nth r1 0))) (D.toInt (D.cell 0 (nth r1 0)))))
  (cond (decide ((0 : Int) ≤ nI (List.length l5)) && decide (nI (List.length l5) ≤ nI (List.length l5)) && decide (nI (List.length l5) ≤ nI bigLen))
    (cond (decide ((0 : Int) ≤ x0) && decide (x0 < nI (List.length (List.replicate (Int.toNat (nI (List.length l5))) false))))
      (cond (decide ((0 : Int) ≤ x1) && decide (x1 < nI (List.length l5)))
        (cond (List.getD l5 (Int.toNat x1) false)
          (some [(.bool (true))])
          ((go k impl_Agree [(.agg [(.int .i64 (x14)), (.arr false (z6) (.r3 (l7))), (.arr false (z8) (.ints .i64 (l9))), (.arr false (z10) (.ints .i64 (l11))), (.arr false (z12) (.ints .i64 (l13)))]), (.agg [(.int .i64 (x23)), (.arr false (z15) (.r3 (l16))), (.arr false (z17) (.ints .i64 (l18))), (.arr false (z19) (.ints .i64 (l20))), (.arr false (z21) (.ints .i64 (l22)))]), (.arr false (false) (.bools (List.set (List.replicate (Int.toNat (nI (List.length l5))) false) (Int.toNat x0) true)))]).bind fun r2 =>
            some [(.bool (bit (nth r2 0)))]))
        (none))
      (none))
    (none)) := by kernel_rfl
theorem e_impl_SafeDistance (k : Nat) (a0 : Int) (a1z : Bool) (a1 : List (Int × Int × Int)) (b : Int) : go (k + 1) impl_SafeDistance [(.agg [(.int .i64 (a0)), (.arr false (a1z) (.r3 (a1)))]), (.int .i64 (b))] =
    (go k impl_MeshOk [(.agg [(.int .i64 (a0)), (.arr false (a1z) (.r3 (a1)))])]).bind fun r0 =>
  cond (!bit (nth r0 0))
  (some [(.int .i64 ((0 : Int)))])
  ((go k impl_within [(.int .i64 (b)), (.int .i64 ((0 : Int))), (.int .i64 ((100000 : Int)))]).bind fun r1 =>
    cond (!bit (nth r1 0))
    (some [(.int .i64 ((0 : Int)))])
    (some [(.int .i64 (if IntKind.wrap .i64 (IntKind.wrap .i64 (IntKind.wrap .i64 (Int.tdiv (IntKind.wrap .i64 (IntKind.wrap .i64 (b + (16 : Int)) - (1 : Int))) (16 : Int)) * (2 : Int)) * (2 : Int) ^ shiftN .i64 (4 : Int)) < (128 : Int) then IntKind.wrap .i64 (IntKind.wrap .i64 (IntKind.wrap .i64 (Int.tdiv (IntKind.wrap .i64 (IntKind.wrap .i64 (b + (16 : Int)) - (1 : Int))) (16 : Int)) * (2 : Int)) * (2 : Int) ^ shiftN .i64 (4 : Int)) else (128 : Int)))])) := by kernel_rfl
theorem e_spec_PutCell (k : Nat) (a0 : Int) (a1z : Bool) (a1 : List (Int × Int × Int)) (a2z : Bool) (a2 : List Int) (a3z : Bool) (a3 : List Int) (a4z : Bool) (a4 : List Int) (b : Int) (c : Int) (d : Int) : go (k + 1) spec_PutCell [(.agg [(.int .i64 (a0)), (.arr false (a1z) (.r3 (a1))), (.arr false (a2z) (.ints .i64 (a2))), (.arr false (a3z) (.ints .i64 (a3))), (.arr false (a4z) (.ints .i64 (a4)))]), (.int .i64 (b)), (.int .i64 (c)), (.int .i64 (d))] =
    (go k spec_l07Copy [(.agg [(.int .i64 (a0)), (.arr false (a1z) (.r3 (a1))), (.arr false (a2z) (.ints .i64 (a2))), (.arr false (a3z) (.ints .i64 (a3))), (.arr false (a4z) (.ints .i64 (a4)))])]).bind fun r0 =>
  (go k spec_StateOk [(.agg [(.int .i64 (a0)), (.arr false (a1z) (.r3 (a1))), (.arr false (a2z) (.ints .i64 (a2))), (.arr false (a3z) (.ints .i64 (a3))), (.arr false (a4z) (.ints .i64 (a4)))])]).bind fun r1 =>
  cond (!bit (nth r1 0))
  (some [(.agg [(.int .i64 (D.toInt (D.cell 0 (nth r0 0)))), (.arr true (D.nil (D.cell 1 (nth r0 0))) (.r3 (D.r3 (D.cell 1 (nth r0 0))))), (.arr true (D.nil (D.cell 2 (nth r0 0))) (.ints .i64 (D.ints (D.cell 2 (nth r0 0))))), (.arr true (D.nil (D.cell 3 (nth r0 0))) (.ints .i64 (D.ints (D.cell 3 (nth r0 0))))), (.arr true (D.nil (D.cell 4 (nth r0 0))) (.ints .i64 (D.ints (D.cell 4 (nth r0 0)))))]), (.bool (false))])
  ((go k spec_l01In [(.int .i64 (b)), (.int .i64 ((0 : Int))), (.int .i64 (IntKind.wrap .i64 (nI (List.length a2) - (1 : Int))))]).bind fun r2 =>
    cond (!bit (nth r2 0))
    (some [(.agg [(.int .i64 (D.toInt (D.cell 0 (nth r0 0)))), (.arr true (D.nil (D.cell 1 (nth r0 0))) (.r3 (D.r3 (D.cell 1 (nth r0 0))))), (.arr true (D.nil (D.cell 2 (nth r0 0))) (.ints .i64 (D.ints (D.cell 2 (nth r0 0))))), (.arr true (D.nil (D.cell 3 (nth r0 0))) (.ints .i64 (D.ints (D.cell 3 (nth r0 0))))), (.arr true (D.nil (D.cell 4 (nth r0 0))) (.ints .i64 (D.ints (D.cell 4 (nth r0 0)))))]), (.bool (false))])
    (cond (decide ((0 : Int) ≤ b) && decide (b < nI (List.length (D.ints (D.cell 2 (nth r0 0))))))
      (cond (decide ((0 : Int) ≤ b) && decide (b < nI (List.length (D.ints (D.cell 3 (nth r0 0))))))
        ((go k spec_StateOk [(.agg [(.int .i64 (D.toInt (D.cell 0 (nth r0 0)))), (.arr false (D.nil (D.cell 1 (nth r0 0))) (.r3 (D.r3 (D.cell 1 (nth r0 0))))), (.arr false (D.nil (D.cell 2 (nth r0 0))) (.ints .i64 (List.set (D.ints (D.cell 2 (nth r0 0))) (Int.toNat b) c))), (.arr false (D.nil (D.cell 3 (nth r0 0))) (.ints .i64 (List.set (D.ints (D.cell 3 (nth r0 0))) (Int.toNat b) d))), (.arr false (D.nil (D.cell 4 (nth r0 0))) (.ints .i64 (D.ints (D.cell 4 (nth r0 0)))))])]).bind fun r3 =>
          cond (!bit (nth r3 0))
          ((go k spec_l07Copy [(.agg [(.int .i64 (a0)), (.arr false (a1z) (.r3 (a1))), (.arr false (a2z) (.ints .i64 (a2))), (.arr false (a3z) (.ints .i64 (a3))), (.arr false (a4z) (.ints .i64 (a4)))])]).bind fun r4 =>
            some [(.agg [(.int .i64 (D.toInt (D.cell 0 (nth r4 0)))), (.arr true (D.nil (D.cell 1 (nth r4 0))) (.r3 (D.r3 (D.cell 1 (nth r4 0))))), (.arr true (D.nil (D.cell 2 (nth r4 0))) (.ints .i64 (D.ints (D.cell 2 (nth r4 0))))), (.arr true (D.nil (D.cell 3 (nth r4 0))) (.ints .i64 (D.ints (D.cell 3 (nth r4 0))))), (.arr true (D.nil (D.cell 4 (nth r4 0))) (.ints .i64 (D.ints (D.cell 4 (nth r4 0)))))]), (.bool (false))])
          (some [(.agg [(.int .i64 (D.toInt (D.cell 0 (nth r0 0)))), (.arr true (D.nil (D.cell 1 (nth r0 0))) (.r3 (D.r3 (D.cell 1 (nth r0 0))))), (.arr true (D.nil (D.cell 2 (nth r0 0))) (.ints .i64 (List.set (D.ints (D.cell 2 (nth r0 0))) (Int.toNat b) c))), (.arr true (D.nil (D.cell 3 (nth r0 0))) (.ints .i64 (List.set (D.ints (D.cell 3 (nth r0 0))) (Int.toNat b) d))), (.arr true (D.nil (D.cell 4 (nth r0 0))) (.ints .i64 (D.ints (D.cell 4 (nth r0 0)))))]), (.bool (true))]))
        (none))
      (none))) := by kernel_rfl
theorem e_laws_big (k : Nat) (az : Bool) (a : List Int) : go (k + 1) laws_big [(.arr false (az) (.ints IntKind.u8 (a)))] =
    some [(.bool (decide ((1048576 : Int) < nI (List.length a))))] := by kernel_rfl

end Go.Proofs.Ytaoffhlajfkccaa
