/- The law of new worlds answers true. -/
import Derived.Test.YtaoffhlajfkccaaGreatXNW
import Derived.Test.YtaoffhlajfkccaaGreatPO
import Derived.Test.YtaoffhlajfkccaaGreatPW
import Derived.Test.YtaoffhlajfkccaaGreatPCU3
namespace Go.Proofs.YtaoffhlajfkccaaGreat
open Go.Ev
set_option linter.unusedVariables false
set_option linter.unusedSimpArgs false
set_option maxRecDepth 20000
theorem c_laws_bigN (k : Nat) (hk : 2000000 ≤ k) (z : Bool) (l : List Int) : go (k + 1) laws_big [.arr false z (.ints .u8 l)] = some [.bool (decide (1048576 < (l.length : Int)))] := by
  rw [e_laws_big]
theorem c_TotalMassN (k : Nat) (hk : 2000000 ≤ k) (z1 z2 z3 z4 : Bool) (r : Int) (l : List Cell) (m t b : List Int) (F : StF r l m t b) : go (k + 8) spec_TotalMass [.agg [.int .i64 (r), .arr false (z1) (.r3 (l)), .arr false (z2) (.ints .i64 (m)), .arr false (z3) (.ints .i64 (t)), .arr false (z4) (.ints .i64 (b))]] = some [.int .i64 (isum m)] := by
  rw [e_spec_TotalMass]
  have := F.len; have := F.ml; have := F.tl; have := F.rr; have := F.bl
  have g := stF.2 F
  simp (disch := omega) only [bindS, nth0, nth1, nth2, nth3, bit, cell0, cell1, cell2, cell3, cell4, cell5, cell6, cell7, cell8, cell9, cell10, cell11, cell12, cell13, cell14, cell15, cell16, cell17, cell18, cell19, cell20, cell21, cell22, cell23, toInt_int, toBool_bool, toStr_str, nil_arr, r3_arr, r4_arr, ints_arr, bools_arr, strs_arr, nI, condT, condF, Bool.not_true, Bool.not_false, Bool.and_true, Bool.true_and, Bool.and_false, Bool.false_and, Bool.or_true, Bool.true_or, Bool.or_false, Bool.false_or, beq_self_eq_true, dTT, dFF, dT, dF, bigI, big0, nilApp, wrapI, wrapU, List.length_set, List.length_replicate, Int.toNat_natCast, castS, castS2, imax, imin, c_spec_StateOk, g]
  rw [c_spec_l07Sum _ (by omega) _ _ (by omega) F.mmem]
  simp (disch := omega) only [bindS, nth0, nth1, nth2, nth3, bit, cell0, cell1, cell2, cell3, cell4, cell5, cell6, cell7, cell8, cell9, cell10, cell11, cell12, cell13, cell14, cell15, cell16, cell17, cell18, cell19, cell20, cell21, cell22, cell23, toInt_int, toBool_bool, toStr_str, nil_arr, r3_arr, r4_arr, ints_arr, bools_arr, strs_arr, nI, condT, condF, Bool.not_true, Bool.not_false, Bool.and_true, Bool.true_and, Bool.and_false, Bool.false_and, Bool.or_true, Bool.true_or, Bool.or_false, Bool.false_or, beq_self_eq_true, dTT, dFF, dT, dF, bigI, big0, nilApp, wrapI, wrapU, List.length_set, List.length_replicate, Int.toNat_natCast, castS, castS2, imax, imin]
theorem c_TotalTracerN (k : Nat) (hk : 2000000 ≤ k) (z1 z2 z3 z4 : Bool) (r : Int) (l : List Cell) (m t b : List Int) (F : StF r l m t b) : go (k + 8) spec_TotalTracer [.agg [.int .i64 (r), .arr false (z1) (.r3 (l)), .arr false (z2) (.ints .i64 (m)), .arr false (z3) (.ints .i64 (t)), .arr false (z4) (.ints .i64 (b))]] = some [.int .i64 (isum t)] := by
  rw [e_spec_TotalTracer]
  have := F.len; have := F.ml; have := F.tl; have := F.rr; have := F.bl
  have g := stF.2 F
  simp (disch := omega) only [bindS, nth0, nth1, nth2, nth3, bit, cell0, cell1, cell2, cell3, cell4, cell5, cell6, cell7, cell8, cell9, cell10, cell11, cell12, cell13, cell14, cell15, cell16, cell17, cell18, cell19, cell20, cell21, cell22, cell23, toInt_int, toBool_bool, toStr_str, nil_arr, r3_arr, r4_arr, ints_arr, bools_arr, strs_arr, nI, condT, condF, Bool.not_true, Bool.not_false, Bool.and_true, Bool.true_and, Bool.and_false, Bool.false_and, Bool.or_true, Bool.true_or, Bool.or_false, Bool.false_or, beq_self_eq_true, dTT, dFF, dT, dF, bigI, big0, nilApp, wrapI, wrapU, List.length_set, List.length_replicate, Int.toNat_natCast, castS, castS2, imax, imin, c_spec_StateOk, g]
  rw [c_spec_l07Sum _ (by omega) _ _ (by omega) F.tmem]
  simp (disch := omega) only [bindS, nth0, nth1, nth2, nth3, bit, cell0, cell1, cell2, cell3, cell4, cell5, cell6, cell7, cell8, cell9, cell10, cell11, cell12, cell13, cell14, cell15, cell16, cell17, cell18, cell19, cell20, cell21, cell22, cell23, toInt_int, toBool_bool, toStr_str, nil_arr, r3_arr, r4_arr, ints_arr, bools_arr, strs_arr, nI, condT, condF, Bool.not_true, Bool.not_false, Bool.and_true, Bool.true_and, Bool.and_false, Bool.false_and, Bool.or_true, Bool.true_or, Bool.or_false, Bool.false_or, beq_self_eq_true, dTT, dFF, dT, dF, bigI, big0, nilApp, wrapI, wrapU, List.length_set, List.length_replicate, Int.toNat_natCast, castS, castS2, imax, imin]
theorem c_copyWorldN (k : Nat) (hk : 2000000 ≤ k) (a0 : Int) (a1 : List Cell) (a2 a3 a4 : List Int) (a5 a6 a7 a8 a9 a10 a11 a12 a13 a14 a15 a16 a17 a18 a19 a20 : Int) (h1 : (a1.length : Int) ≤ 1048576) (h2 : (a2.length : Int) ≤ 1048576) (h3 : (a3.length : Int) ≤ 1048576) (h4 : (a4.length : Int) ≤ 1048576) : go (k + 4) impl_copyWorld [.agg [.int .i64 (a0), .arr false false (.r3 (a1)), .arr false false (.ints .i64 (a2)), .arr false false (.ints .i64 (a3)), .arr false false (.ints .i64 (a4)), .int .i64 (a5), .int .i64 (a6), .int .i64 (a7), .int .i64 (a8), .int .i64 (a9), .int .i64 (a10), .int .i64 (a11), .int .i64 (a12), .int .i64 (a13), .int .i64 (a14), .int .i64 (a15), .int .i64 (a16), .int .i64 (a17), .int .i64 (a18), .int .i64 (a19), .int .i64 (a20)]] = some [.agg [.int .i64 (a0), .arr true false (.r3 (a1)), .arr true false (.ints .i64 (a2)), .arr true false (.ints .i64 (a3)), .arr true false (.ints .i64 (a4)), .int .i64 (a5), .int .i64 (a6), .int .i64 (a7), .int .i64 (a8), .int .i64 (a9), .int .i64 (a10), .int .i64 (a11), .int .i64 (a12), .int .i64 (a13), .int .i64 (a14), .int .i64 (a15), .int .i64 (a16), .int .i64 (a17), .int .i64 (a18), .int .i64 (a19), .int .i64 (a20)]] := by
  rw [e_impl_copyWorld]
  simp (disch := omega) only [bindS, nth0, nth1, nth2, nth3, bit, cell0, cell1, cell2, cell3, cell4, cell5, cell6, cell7, cell8, cell9, cell10, cell11, cell12, cell13, cell14, cell15, cell16, cell17, cell18, cell19, cell20, cell21, cell22, cell23, toInt_int, toBool_bool, toStr_str, nil_arr, r3_arr, r4_arr, ints_arr, bools_arr, strs_arr, nI, condT, condF, Bool.not_true, Bool.not_false, Bool.and_true, Bool.true_and, Bool.and_false, Bool.false_and, Bool.or_true, Bool.true_or, Bool.or_false, Bool.false_or, beq_self_eq_true, dTT, dFF, dT, dF, bigI, big0, nilApp, wrapI, wrapU, List.length_set, List.length_replicate, Int.toNat_natCast, castS, castS2, imax, imin, c_impl_copyState]
theorem mul_two {u v B : Int} (hu : 0 ≤ u ∧ u < 2) (hv : 0 ≤ v ∧ v < B) : 0 ≤ u * v ∧ u * v < B := by
  have h1 : 0 ≤ u * v := Int.mul_nonneg hu.1 hv.1
  have h2 : u * v ≤ 1 * v := Int.mul_le_mul_of_nonneg_right (by omega) hv.1
  omega
theorem c_spec_l13Border (k : Nat) (hk : 2000000 ≤ k) (z : Bool) (l : List Int) (i h : Int) (hl : (l.length : Int) ≤ 1048576) (h0 : 0 ≤ i) (h1 : i ≤ l.length) :
    ∃ (b0 b1 b2 i' h' : Int), go (k + 3) spec_l13Border [.ptr true [.arr false (z) (.ints .u8 (l)), .int .i64 (i), .int .i64 (h)]] = some [.agg [.int .i64 b0, .int .i64 b1, .int .i64 b2], .ptr true [.arr false (z) (.ints .u8 (l)), .int .i64 (i'), .int .i64 (h')]] ∧ (0 ≤ i' ∧ i' ≤ l.length) ∧ borderOk b0 b1 b2 = true := by
  have e := e_spec_l13Border_v1 (k + 2) z l i h
  obtain ⟨u1, i1, k1, e1, b1, q1, r1⟩ := c_spec_l01Below k (by omega) z l i h 2 hl h0 h1 (by omega) (by omega)
  obtain ⟨u2, i2, k2, e2, b2, q2, r2⟩ := c_spec_l01Below k (by omega) z l i1 k1 3000 hl q1 r1 (by omega) (by omega)
  obtain ⟨u3, i3, k3, e3, b3, q3, r3⟩ := c_spec_l01Below k (by omega) z l i2 k2 1001 hl q2 r2 (by omega) (by omega)
  obtain ⟨u4, i4, k4, e4, b4, q4, r4⟩ := c_spec_l01Below k (by omega) z l i3 k3 2 hl q3 r3 (by omega) (by omega)
  obtain ⟨u5, i5, k5, e5, b5, q5, r5⟩ := c_spec_l01Below k (by omega) z l i4 k4 251 hl q4 r4 (by omega) (by omega)
  have m1 := mul_two b1 b2; have m2 := mul_two b4 b5
  simp (disch := omega) only [bindS, nth0, nth1, nth2, nth3, bit, cell0, cell1, cell2, cell3, cell4, cell5, cell6, cell7, cell8, cell9, cell10, cell11, cell12, cell13, cell14, cell15, cell16, cell17, cell18, cell19, cell20, cell21, cell22, cell23, toInt_int, toBool_bool, toStr_str, nil_arr, r3_arr, r4_arr, ints_arr, bools_arr, strs_arr, nI, condT, condF, Bool.not_true, Bool.not_false, Bool.and_true, Bool.true_and, Bool.and_false, Bool.false_and, Bool.or_true, Bool.true_or, Bool.or_false, Bool.false_or, beq_self_eq_true, dTT, dFF, dT, dF, bigI, big0, nilApp, wrapI, wrapU, List.length_set, List.length_replicate, Int.toNat_natCast, castS, castS2, imax, imin, e1, e2, e3, e4, e5, qcell0, qcell1, qcell2] at e
  exact ⟨_, _, _, _, _, e, ⟨q5, r5⟩, by simp only [borderOk, Bool.and_eq_true, inR_iff]; omega⟩
theorem c_spec_l18Plan (k : Nat) (hk : 2000000 ≤ k) (z : Bool) (l : List Int) (i h : Int) (hl : (l.length : Int) ≤ 1048576) (h0 : 0 ≤ i) (h1 : i ≤ l.length) :
    ∃ (b0 b1 b2 b3 b4 b5 b6 b7 b8 i' h' : Int), go (k + 4) spec_l18Plan [.ptr true [.arr false (z) (.ints .u8 (l)), .int .i64 (i), .int .i64 (h)]] = some [.agg [.int .i64 b0, .int .i64 b1, .int .i64 b2, .int .i64 b3, .int .i64 b4, .int .i64 b5, .int .i64 b6, .int .i64 b7, .int .i64 b8], .ptr true [.arr false (z) (.ints .u8 (l)), .int .i64 (i'), .int .i64 (h')]] ∧ planOk b0 b1 b2 b3 b4 b5 b6 b7 b8 = true := by
  have e := e_spec_l18Plan_v1 (k + 3) z l i h
  obtain ⟨c0, c1, c2, i1, k1, e1, ⟨q1, r1⟩, hb⟩ := c_spec_l13Border k (by omega) z l i h hl h0 h1
  obtain ⟨u2, i2, k2, e2, b2, q2, r2⟩ := c_spec_l01Below (k + 1) (by omega) z l i1 k1 2 hl q1 r1 (by omega) (by omega)
  obtain ⟨u3, i3, k3, e3, b3, q3, r3⟩ := c_spec_l01Below (k + 1) (by omega) z l i2 k2 900 hl q2 r2 (by omega) (by omega)
  obtain ⟨u4, i4, k4, e4, b4, q4, r4⟩ := c_spec_l01Below (k + 1) (by omega) z l i3 k3 2 hl q3 r3 (by omega) (by omega)
  obtain ⟨u5, i5, k5, e5, b5, q5, r5⟩ := c_spec_l01Below (k + 1) (by omega) z l i4 k4 400 hl q4 r4 (by omega) (by omega)
  obtain ⟨u6, i6, k6, e6, b6, q6, r6⟩ := c_spec_l01Below (k + 1) (by omega) z l i5 k5 2 hl q5 r5 (by omega) (by omega)
  obtain ⟨u7, i7, k7, e7, b7, q7, r7⟩ := c_spec_l01Below (k + 1) (by omega) z l i6 k6 200 hl q6 r6 (by omega) (by omega)
  obtain ⟨u8, i8, k8, e8, b8, q8, r8⟩ := c_spec_l01Below (k + 1) (by omega) z l i7 k7 4000 hl q7 r7 (by omega) (by omega)
  obtain ⟨u9, i9, k9, e9, b9, q9, r9⟩ := c_spec_l01Below (k + 1) (by omega) z l i8 k8 300 hl q8 r8 (by omega) (by omega)
  obtain ⟨u10, i10, k10, e10, b10, q10, r10⟩ := c_spec_l01Below (k + 1) (by omega) z l i9 k9 3 hl q9 r9 (by omega) (by omega)
  have m1 := mul_two b2 b3; have m2 := mul_two b4 b5; have m3 := mul_two b6 b7
  simp (disch := omega) only [bindS, nth0, nth1, nth2, nth3, bit, cell0, cell1, cell2, cell3, cell4, cell5, cell6, cell7, cell8, cell9, cell10, cell11, cell12, cell13, cell14, cell15, cell16, cell17, cell18, cell19, cell20, cell21, cell22, cell23, toInt_int, toBool_bool, toStr_str, nil_arr, r3_arr, r4_arr, ints_arr, bools_arr, strs_arr, nI, condT, condF, Bool.not_true, Bool.not_false, Bool.and_true, Bool.true_and, Bool.and_false, Bool.false_and, Bool.or_true, Bool.true_or, Bool.or_false, Bool.false_or, beq_self_eq_true, dTT, dFF, dT, dF, bigI, big0, nilApp, wrapI, wrapU, List.length_set, List.length_replicate, Int.toNat_natCast, castS, castS2, imax, imin, e1, e2, e3, e4, e5, e6, e7, e8, e9, e10, qcell0, qcell1, qcell2] at e
  exact ⟨_, _, _, _, _, _, _, _, _, _, _, e, by simp only [planOk, Bool.and_eq_true, inR_iff]; exact ⟨hb, by omega, by omega, by omega, by omega, by omega, by omega⟩⟩
theorem m_spec_DrawPlan (k : Nat) (hk : 2000000 ≤ k) (fu : List (Nat × Nat)) (z : Bool) (l : List Int) (hl : (l.length : Int) ≤ 1048576) (x4 x5 x6 x7 x8 x9 x10 x11 x12 : Int) :
    ∀ (n t : Nat) (h : Int), t ≤ l.length → l.length - t < n →
    ∃ (b0 b1 b2 b3 b4 b5 b6 b7 b8 : Int), lp (k + 4) spec_DrawPlan [] fu 2800003 (n) (s_spec_DrawPlan_2800003 h (t : Int) z l x4 x5 x6 x7 x8 x9 x10 x11 x12) = some [.agg [.int .i64 b0, .int .i64 b1, .int .i64 b2, .int .i64 b3, .int .i64 b4, .int .i64 b5, .int .i64 b6, .int .i64 b7, .int .i64 b8]] ∧ planOk b0 b1 b2 b3 b4 b5 b6 b7 b8 = true
  | 0, t, h, ht, hn => by omega
  | n + 1, t, h, ht, hn => by
    have e := l_spec_DrawPlan_2800003 (k + 4) n fu h (t : Int) z l x4 x5 x6 x7 x8 x9 x10 x11 x12
    obtain ⟨b0, b1, b2, b3, b4, b5, b6, b7, b8, i1, h1, e1, p1⟩ := c_spec_l18Plan k (by omega) z l 0 h hl (by omega) (by omega)
    by_cases g : t < l.length
    · by_cases g2 : (t : Int) < 4000
      · simp (disch := omega) only [bindS, nth0, nth1, nth2, nth3, bit, cell0, cell1, cell2, cell3, cell4, cell5, cell6, cell7, cell8, cell9, cell10, cell11, cell12, cell13, cell14, cell15, cell16, cell17, cell18, cell19, cell20, cell21, cell22, cell23, toInt_int, toBool_bool, toStr_str, nil_arr, r3_arr, r4_arr, ints_arr, bools_arr, strs_arr, nI, condT, condF, Bool.not_true, Bool.not_false, Bool.and_true, Bool.true_and, Bool.and_false, Bool.false_and, Bool.or_true, Bool.true_or, Bool.or_false, Bool.false_or, beq_self_eq_true, dTT, dFF, dT, dF, bigI, big0, nilApp, wrapI, wrapU, List.length_set, List.length_replicate, Int.toNat_natCast, castS, castS2, imax, imin] at e
        obtain ⟨b0, b1, b2, b3, b4, b5, b6, b7, b8, e3, p3⟩ := m_spec_DrawPlan k hk fu z l hl x4 x5 x6 x7 x8 x9 x10 x11 x12 n (t + 1) _ (by omega) (by omega)
        exact ⟨b0, b1, b2, b3, b4, b5, b6, b7, b8, e.trans e3, p3⟩
      · simp (disch := omega) only [bindS, nth0, nth1, nth2, nth3, bit, cell0, cell1, cell2, cell3, cell4, cell5, cell6, cell7, cell8, cell9, cell10, cell11, cell12, cell13, cell14, cell15, cell16, cell17, cell18, cell19, cell20, cell21, cell22, cell23, toInt_int, toBool_bool, toStr_str, nil_arr, r3_arr, r4_arr, ints_arr, bools_arr, strs_arr, nI, condT, condF, Bool.not_true, Bool.not_false, Bool.and_true, Bool.true_and, Bool.and_false, Bool.false_and, Bool.or_true, Bool.true_or, Bool.or_false, Bool.false_or, beq_self_eq_true, dTT, dFF, dT, dF, bigI, big0, nilApp, wrapI, wrapU, List.length_set, List.length_replicate, Int.toNat_natCast, castS, castS2, imax, imin, e1, qcell0, qcell1, qcell2] at e
        exact ⟨_, _, _, _, _, _, _, _, _, e, p1⟩
    · simp (disch := omega) only [bindS, nth0, nth1, nth2, nth3, bit, cell0, cell1, cell2, cell3, cell4, cell5, cell6, cell7, cell8, cell9, cell10, cell11, cell12, cell13, cell14, cell15, cell16, cell17, cell18, cell19, cell20, cell21, cell22, cell23, toInt_int, toBool_bool, toStr_str, nil_arr, r3_arr, r4_arr, ints_arr, bools_arr, strs_arr, nI, condT, condF, Bool.not_true, Bool.not_false, Bool.and_true, Bool.true_and, Bool.and_false, Bool.false_and, Bool.or_true, Bool.true_or, Bool.or_false, Bool.false_or, beq_self_eq_true, dTT, dFF, dT, dF, bigI, big0, nilApp, wrapI, wrapU, List.length_set, List.length_replicate, Int.toNat_natCast, castS, castS2, imax, imin, e1, qcell0, qcell1, qcell2] at e
      exact ⟨_, _, _, _, _, _, _, _, _, e, p1⟩
theorem c_spec_DrawPlan (k : Nat) (hk : 2000000 ≤ k) (z : Bool) (l : List Int) (hl : (l.length : Int) ≤ 1048576) :
    ∃ (b0 b1 b2 b3 b4 b5 b6 b7 b8 : Int), go (k + 5) spec_DrawPlan [.arr false z (.ints .u8 l)] = some [.agg [.int .i64 b0, .int .i64 b1, .int .i64 b2, .int .i64 b3, .int .i64 b4, .int .i64 b5, .int .i64 b6, .int .i64 b7, .int .i64 b8]] ∧ planOk b0 b1 b2 b3 b4 b5 b6 b7 b8 = true := by
  have e := e_spec_DrawPlan (k + 4) z l
  obtain ⟨b0, b1, b2, b3, b4, b5, b6, b7, b8, e3, p3⟩ := m_spec_DrawPlan k hk [] z l hl 0 0 0 0 0 0 0 0 0 (k + 4) 0 (IntKind.wrap .i64 (98231 + nI l.length)) (by omega) (by omega)
  rw [show ((0 : Nat) : Int) = 0 from rfl] at e3
  exact ⟨b0, b1, b2, b3, b4, b5, b6, b7, b8, e.trans e3, p3⟩
theorem c_impl_Advance0 (k : Nat) (hk : 2000000 ≤ k) (a0 : Int) (a1 : List Cell) (a2 a3 a4 : List Int) (a5 a6 a7 a8 a9 a10 a11 a12 a13 a14 a15 a16 a17 a18 a19 a20 : Int) (h1 : (a1.length : Int) ≤ 1048576) (h2 : (a2.length : Int) ≤ 1048576) (h3 : (a3.length : Int) ≤ 1048576) (h4 : (a4.length : Int) ≤ 1048576) (hw : wldOk a0 a1 a2 a3 a4 a5 a6 a7 a8 a9 a10 a11 a12 a13 a14 a15 a16 a17 a18 a19 a20 = true) :
    go (k + 12) impl_Advance [.agg [.int .i64 (a0), .arr false false (.r3 (a1)), .arr false false (.ints .i64 (a2)), .arr false false (.ints .i64 (a3)), .arr false false (.ints .i64 (a4)), .int .i64 (a5), .int .i64 (a6), .int .i64 (a7), .int .i64 (a8), .int .i64 (a9), .int .i64 (a10), .int .i64 (a11), .int .i64 (a12), .int .i64 (a13), .int .i64 (a14), .int .i64 (a15), .int .i64 (a16), .int .i64 (a17), .int .i64 (a18), .int .i64 (a19), .int .i64 (a20)], .int .i64 0] = some [.agg [.int .i64 (a0), .arr true false (.r3 (a1)), .arr true false (.ints .i64 (a2)), .arr true false (.ints .i64 (a3)), .arr true false (.ints .i64 (a4)), .int .i64 (a5), .int .i64 (a6), .int .i64 (a7), .int .i64 (a8), .int .i64 (a9), .int .i64 (a10), .int .i64 (a11), .int .i64 (a12), .int .i64 (a13), .int .i64 (a14), .int .i64 (a15), .int .i64 (a16), .int .i64 (a17), .int .i64 (a18), .int .i64 (a19), .int .i64 (a20)], .bool true] := by
  rw [e_impl_Advance]
  have hb : inR 0 0 100 = true := by decide
  simp (disch := omega) only [bindS, nth0, nth1, nth2, nth3, bit, cell0, cell1, cell2, cell3, cell4, cell5, cell6, cell7, cell8, cell9, cell10, cell11, cell12, cell13, cell14, cell15, cell16, cell17, cell18, cell19, cell20, cell21, cell22, cell23, toInt_int, toBool_bool, toStr_str, nil_arr, r3_arr, r4_arr, ints_arr, bools_arr, strs_arr, nI, condT, condF, Bool.not_true, Bool.not_false, Bool.and_true, Bool.true_and, Bool.and_false, Bool.false_and, Bool.or_true, Bool.true_or, Bool.or_false, Bool.false_or, beq_self_eq_true, dTT, dFF, dT, dF, bigI, big0, nilApp, wrapI, wrapU, List.length_set, List.length_replicate, Int.toNat_natCast, castS, castS2, imax, imin, c_copyWorldN, c_impl_WorldOk, hw, c_impl_within, hb]
  have e := l_impl_Advance_5 (k + 11) (k + 11 - 1) [] 0 0 true [] true [] true [] true [] 0 0 0 0 0 0 0 0 0 0 0 0 0 0 0 0 0 false a1 false a2 false a3 false a4 a0 a5 a6 a7 a8 a9 a10 a11 a12 a13 a14 a15 a16 a17 a18 a19 a20
  rw [show k + 11 - 1 + 1 = k + 11 by omega] at e
  simp (disch := omega) only [bindS, nth0, nth1, nth2, nth3, bit, cell0, cell1, cell2, cell3, cell4, cell5, cell6, cell7, cell8, cell9, cell10, cell11, cell12, cell13, cell14, cell15, cell16, cell17, cell18, cell19, cell20, cell21, cell22, cell23, toInt_int, toBool_bool, toStr_str, nil_arr, r3_arr, r4_arr, ints_arr, bools_arr, strs_arr, nI, condT, condF, Bool.not_true, Bool.not_false, Bool.and_true, Bool.true_and, Bool.and_false, Bool.false_and, Bool.or_true, Bool.true_or, Bool.or_false, Bool.false_or, beq_self_eq_true, dTT, dFF, dT, dF, bigI, big0, nilApp, wrapI, wrapU, List.length_set, List.length_replicate, Int.toNat_natCast, castS, castS2, imax, imin] at e
  exact e
theorem law_FnNewWorlds (k : Nat) (hk : 2000000 ≤ k) (az : Bool) (a : List Int) : go (k + 13) laws_FnNewWorlds [(.arr false (az) (.ints IntKind.u8 (a)))] = some [.bool true] := by
  by_cases h : 1048576 < (a.length : Int)
  · rw [e_laws_FnNewWorlds]; simp (disch := omega) only [bindS, nth0, nth1, nth2, nth3, bit, cell0, cell1, cell2, cell3, cell4, cell5, cell6, cell7, cell8, cell9, cell10, cell11, cell12, cell13, cell14, cell15, cell16, cell17, cell18, cell19, cell20, cell21, cell22, cell23, toInt_int, toBool_bool, toStr_str, nil_arr, r3_arr, r4_arr, ints_arr, bools_arr, strs_arr, nI, condT, condF, Bool.not_true, Bool.not_false, Bool.and_true, Bool.true_and, Bool.and_false, Bool.false_and, Bool.or_true, Bool.true_or, Bool.or_false, Bool.false_or, beq_self_eq_true, dTT, dFF, dT, dF, bigI, big0, nilApp, wrapI, wrapU, List.length_set, List.length_replicate, Int.toNat_natCast, castS, castS2, imax, imin, c_laws_bigN]
  have h : (a.length : Int) ≤ 1048576 := by omega
  obtain ⟨r, l, m, t, b, eD, F, hr⟩ := c_spec_DrawState k (by omega) az a h
  obtain ⟨b0, b1, b2, b3, b4, b5, b6, b7, b8, eP, hp⟩ := c_spec_DrawPlan (k + 7) (by omega) az a h
  have := F.len; have := F.ml; have := F.tl; have := F.rr; have := F.bl
  have g := stF.2 F
  have eN := c_impl_WorldNew (k + 3) (by omega) r l m t b b0 b1 b2 b3 b4 b5 b6 b7 b8 (by omega) (by omega)
  rw [g, hp] at eN
  simp only [Bool.and_self, condT, newW] at eN
  have hw : wldOk r l m t b b0 b1 b2 b3 b4 b5 b6 b7 b8 0 0 0 0 0 (isum m) (isum t) = true := by
    simp only [wldOk, g, hp, Bool.true_and, Bool.and_eq_true, decide_eq_true_eq]
    exact ⟨by decide, by decide, by omega, by omega⟩
  have eA := c_impl_Advance0 k (by omega) r l m t b b0 b1 b2 b3 b4 b5 b6 b7 b8 0 0 0 0 0 (isum m) (isum t) (by omega) (by omega) (by omega) (by omega) hw
  have eM := c_TotalMassN (k + 4) (by omega) false false false false r l m t b F
  have eT := c_TotalTracerN (k + 4) (by omega) false false false false r l m t b F
  have sW : (sameS r r l l m t b m t b && sameR b0 b1 b2 b3 b4 b5 b6 b7 b8 0 0 0 0 0 (isum m) (isum t) b0 b1 b2 b3 b4 b5 b6 b7 b8 0 0 0 0 0 (isum m) (isum t)) = true := by simp [sameS, sameM, sameR]
  rw [e_laws_FnNewWorlds]
  simp (disch := omega) only [bindS, nth0, nth1, nth2, nth3, bit, cell0, cell1, cell2, cell3, cell4, cell5, cell6, cell7, cell8, cell9, cell10, cell11, cell12, cell13, cell14, cell15, cell16, cell17, cell18, cell19, cell20, cell21, cell22, cell23, toInt_int, toBool_bool, toStr_str, nil_arr, r3_arr, r4_arr, ints_arr, bools_arr, strs_arr, nI, condT, condF, Bool.not_true, Bool.not_false, Bool.and_true, Bool.true_and, Bool.and_false, Bool.false_and, Bool.or_true, Bool.true_or, Bool.or_false, Bool.false_or, beq_self_eq_true, dTT, dFF, dT, dF, bigI, big0, nilApp, wrapI, wrapU, List.length_set, List.length_replicate, Int.toNat_natCast, castS, castS2, imax, imin, c_laws_bigN, eD, eP, eN, eA, c_impl_WorldOk, hw, eM, eT, c_spec_SameWorld, sW]
end Go.Proofs.YtaoffhlajfkccaaGreat
