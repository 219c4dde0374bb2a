/- Wishes: both readings agree. -/
import Derived.Test.YtfgccfajhedgdaaXAD2
import Derived.Test.YtfgccfajhedgdaaPA2
import Derived.Test.YtfgccfajhedgdaaPV
namespace Go.Proofs.Ytfgccfajhedgdaa
open Go.Ev
set_option linter.unusedVariables false
set_option linter.unusedSimpArgs false
set_option maxRecDepth 20000
theorem len2 (x y : Int) : List.length [x, y] = 2 := Eq.trans rfl rfl
theorem gd0 (x y : Int) : List.getD [x, y] 0 0 = x := Eq.trans rfl rfl
theorem gd1 (x y : Int) : List.getD [x, y] 1 0 = y := Eq.trans rfl rfl
theorem len1 (x : Int) : List.length [x] = 1 := Eq.trans rfl rfl
theorem len0 : List.length ([] : List Int) = 0 := Eq.trans rfl rfl
theorem gdo (x : Int) : List.getD [x] 0 0 = x := Eq.trans rfl rfl
theorem ton1 : Int.toNat 1 = 1 := Eq.trans rfl rfl
def nb (l : List Cell) (i : Nat) : List Int := if 0 < i then (if i + 1 < l.length then [((i - 1 : Nat) : Int), ((i + 1 : Nat) : Int)] else [((i - 1 : Nat) : Int)]) else (if i + 1 < l.length then [((i + 1 : Nat) : Int)] else [])
theorem c_impl_neighbours (k : Nat) (hk : 2000000 ≤ k) (r : Int) (z : Bool) (l : List Cell) (h : meshGo r 0 l = true) (i : Nat) (hi : i < l.length) :
    go (k + 3) impl_Mesh_neighbours [.agg [.int .i64 r, .arr false z (.r3 l)], .int .i64 (i : Int)] = some [.arr true false (.ints .i64 (nb l i))] := by
  rw [e_impl_Mesh_neighbours]
  have L := mesh_len h
  have w1 : IntKind.wrap .i64 ((i : Int) - 1) = (i : Int) - 1 := wrapI (by omega) (by omega)
  have w2 : IntKind.wrap .i64 ((i : Int) + 1) = ((i + 1 : Nat) : Int) := by rw [wrapI (by omega) (by omega)]; omega
  have w3 : IntKind.wrap .i64 ((0 : Int) + 1) = 1 := by rw [wrapI (by omega) (by omega)]; rfl
  have w4 : IntKind.wrap .i64 ((1 : Int) + 1) = 2 := by rw [wrapI (by omega) (by omega)]; rfl
  rw [w1, w2, len2]
  have n2 : nI 2 = 2 := Eq.trans rfl rfl
  rw [n2]
  have la : ∀ x : Int, ([] ++ [x] : List Int).length = 1 := fun x => rfl
  have lb : ∀ x y : Int, ([x] ++ [y] : List Int).length = 2 := fun x y => rfl
  have f0 := l_impl_Mesh_neighbours_3 (k + 2) (k + 2 - 1) [] 2 0 z l r false [] false [(i : Int) - 1, ((i + 1 : Nat) : Int)]
  have f1 := fun x => l_impl_Mesh_neighbours_3 (k + 2) (k + 2 - 2) [] 2 1 z l r false x false [(i : Int) - 1, ((i + 1 : Nat) : Int)]
  have f2 := fun x => l_impl_Mesh_neighbours_3 (k + 2) (k + 2 - 3) [] 2 2 z l r false x false [(i : Int) - 1, ((i + 1 : Nat) : Int)]
  rw [show k + 2 - 1 + 1 = k + 2 by omega] at f0
  rw [show k + 2 - 2 + 1 = k + 2 - 1 by omega] at f1
  rw [show k + 2 - 3 + 1 = k + 2 - 2 by omega] at f2
  simp (disch := omega) only [bindS, nth0, nth1, nth2, nth3, bit, cell0, cell1, cell2, cell3, cell4, cell5, cell6, cell7, cell8, cell9, cell10, cell11, cell12, cell13, cell14, cell15, cell16, cell17, cell18, cell19, cell20, cell21, cell22, cell23, toInt_int, toBool_bool, toStr_str, nil_arr, r3_arr, r4_arr, ints_arr, bools_arr, strs_arr, nI, condT, condF, Bool.not_true, Bool.not_false, Bool.and_true, Bool.true_and, Bool.and_false, Bool.false_and, Bool.or_true, Bool.true_or, Bool.or_false, Bool.false_or, beq_self_eq_true, dTT, dFF, dT, dF, bigI, big0, nilApp, wrapI, wrapU, List.length_set, List.length_replicate, Int.toNat_natCast, castS, castS2, imax, imin, len2] at f2
  unfold nb
  by_cases h0 : 0 < i
  · have b1 : inR ((i : Int) - 1) 0 ((l.length : Int) - 1) = true := inR_iff.2 (by omega)
    have ci : (i : Int) - 1 = ((i - 1 : Nat) : Int) := by omega
    rw [if_pos h0]
    by_cases h1 : i + 1 < l.length
    · have b2 : inR ((i + 1 : Nat) : Int) 0 ((l.length : Int) - 1) = true := inR_iff.2 (by omega)
      rw [if_pos h1]
      simp (disch := omega) only [bindS, nth0, nth1, nth2, nth3, bit, cell0, cell1, cell2, cell3, cell4, cell5, cell6, cell7, cell8, cell9, cell10, cell11, cell12, cell13, cell14, cell15, cell16, cell17, cell18, cell19, cell20, cell21, cell22, cell23, toInt_int, toBool_bool, toStr_str, nil_arr, r3_arr, r4_arr, ints_arr, bools_arr, strs_arr, nI, condT, condF, Bool.not_true, Bool.not_false, Bool.and_true, Bool.true_and, Bool.and_false, Bool.false_and, Bool.or_true, Bool.true_or, Bool.or_false, Bool.false_or, beq_self_eq_true, dTT, dFF, dT, dF, bigI, big0, nilApp, wrapI, wrapU, List.length_set, List.length_replicate, Int.toNat_natCast, castS, castS2, imax, imin, len2, ton1, gd1, c_impl_has, b2, w4, lb, f2] at f1
      simp (disch := omega) only [bindS, nth0, nth1, nth2, nth3, bit, cell0, cell1, cell2, cell3, cell4, cell5, cell6, cell7, cell8, cell9, cell10, cell11, cell12, cell13, cell14, cell15, cell16, cell17, cell18, cell19, cell20, cell21, cell22, cell23, toInt_int, toBool_bool, toStr_str, nil_arr, r3_arr, r4_arr, ints_arr, bools_arr, strs_arr, nI, condT, condF, Bool.not_true, Bool.not_false, Bool.and_true, Bool.true_and, Bool.and_false, Bool.false_and, Bool.or_true, Bool.true_or, Bool.or_false, Bool.false_or, beq_self_eq_true, dTT, dFF, dT, dF, bigI, big0, nilApp, wrapI, wrapU, List.length_set, List.length_replicate, Int.toNat_natCast, castS, castS2, imax, imin, len2, ton0, gd0, c_impl_has, b1, w3, len1, lb, f1] at f0
      rw [← ci]; exact f0
    · have b2 : inR ((i + 1 : Nat) : Int) 0 ((l.length : Int) - 1) = false := by rw [← Bool.not_eq_true, inR_iff]; omega
      rw [if_neg h1]
      simp (disch := omega) only [bindS, nth0, nth1, nth2, nth3, bit, cell0, cell1, cell2, cell3, cell4, cell5, cell6, cell7, cell8, cell9, cell10, cell11, cell12, cell13, cell14, cell15, cell16, cell17, cell18, cell19, cell20, cell21, cell22, cell23, toInt_int, toBool_bool, toStr_str, nil_arr, r3_arr, r4_arr, ints_arr, bools_arr, strs_arr, nI, condT, condF, Bool.not_true, Bool.not_false, Bool.and_true, Bool.true_and, Bool.and_false, Bool.false_and, Bool.or_true, Bool.true_or, Bool.or_false, Bool.false_or, beq_self_eq_true, dTT, dFF, dT, dF, bigI, big0, nilApp, wrapI, wrapU, List.length_set, List.length_replicate, Int.toNat_natCast, castS, castS2, imax, imin, len2, ton1, gd1, c_impl_has, b2, w4, lb, f2] at f1
      simp (disch := omega) only [bindS, nth0, nth1, nth2, nth3, bit, cell0, cell1, cell2, cell3, cell4, cell5, cell6, cell7, cell8, cell9, cell10, cell11, cell12, cell13, cell14, cell15, cell16, cell17, cell18, cell19, cell20, cell21, cell22, cell23, toInt_int, toBool_bool, toStr_str, nil_arr, r3_arr, r4_arr, ints_arr, bools_arr, strs_arr, nI, condT, condF, Bool.not_true, Bool.not_false, Bool.and_true, Bool.true_and, Bool.and_false, Bool.false_and, Bool.or_true, Bool.true_or, Bool.or_false, Bool.false_or, beq_self_eq_true, dTT, dFF, dT, dF, bigI, big0, nilApp, wrapI, wrapU, List.length_set, List.length_replicate, Int.toNat_natCast, castS, castS2, imax, imin, len2, ton0, gd0, c_impl_has, b1, w3, len1, lb, f1] at f0
      rw [← ci]; exact f0
  · have b1 : inR ((i : Int) - 1) 0 ((l.length : Int) - 1) = false := by rw [← Bool.not_eq_true, inR_iff]; omega
    rw [if_neg h0]
    by_cases h1 : i + 1 < l.length
    · have b2 : inR ((i + 1 : Nat) : Int) 0 ((l.length : Int) - 1) = true := inR_iff.2 (by omega)
      rw [if_pos h1]
      simp (disch := omega) only [bindS, nth0, nth1, nth2, nth3, bit, cell0, cell1, cell2, cell3, cell4, cell5, cell6, cell7, cell8, cell9, cell10, cell11, cell12, cell13, cell14, cell15, cell16, cell17, cell18, cell19, cell20, cell21, cell22, cell23, toInt_int, toBool_bool, toStr_str, nil_arr, r3_arr, r4_arr, ints_arr, bools_arr, strs_arr, nI, condT, condF, Bool.not_true, Bool.not_false, Bool.and_true, Bool.true_and, Bool.and_false, Bool.false_and, Bool.or_true, Bool.true_or, Bool.or_false, Bool.false_or, beq_self_eq_true, dTT, dFF, dT, dF, bigI, big0, nilApp, wrapI, wrapU, List.length_set, List.length_replicate, Int.toNat_natCast, castS, castS2, imax, imin, len2, ton1, gd1, c_impl_has, b2, w4, la, lb, f2] at f1
      have f1' := f1 []
      simp (disch := omega) only [bindS, nth0, nth1, nth2, nth3, bit, cell0, cell1, cell2, cell3, cell4, cell5, cell6, cell7, cell8, cell9, cell10, cell11, cell12, cell13, cell14, cell15, cell16, cell17, cell18, cell19, cell20, cell21, cell22, cell23, toInt_int, toBool_bool, toStr_str, nil_arr, r3_arr, r4_arr, ints_arr, bools_arr, strs_arr, nI, condT, condF, Bool.not_true, Bool.not_false, Bool.and_true, Bool.true_and, Bool.and_false, Bool.false_and, Bool.or_true, Bool.true_or, Bool.or_false, Bool.false_or, beq_self_eq_true, dTT, dFF, dT, dF, bigI, big0, nilApp, wrapI, wrapU, List.length_set, List.length_replicate, Int.toNat_natCast, castS, castS2, imax, imin, len1] at f1'
      simp (disch := omega) only [bindS, nth0, nth1, nth2, nth3, bit, cell0, cell1, cell2, cell3, cell4, cell5, cell6, cell7, cell8, cell9, cell10, cell11, cell12, cell13, cell14, cell15, cell16, cell17, cell18, cell19, cell20, cell21, cell22, cell23, toInt_int, toBool_bool, toStr_str, nil_arr, r3_arr, r4_arr, ints_arr, bools_arr, strs_arr, nI, condT, condF, Bool.not_true, Bool.not_false, Bool.and_true, Bool.true_and, Bool.and_false, Bool.false_and, Bool.or_true, Bool.true_or, Bool.or_false, Bool.false_or, beq_self_eq_true, dTT, dFF, dT, dF, bigI, big0, nilApp, wrapI, wrapU, List.length_set, List.length_replicate, Int.toNat_natCast, castS, castS2, imax, imin, len2, ton0, gd0, c_impl_has, b1, w3, la, f1'] at f0
      exact f0
    · have b2 : inR ((i + 1 : Nat) : Int) 0 ((l.length : Int) - 1) = false := by rw [← Bool.not_eq_true, inR_iff]; omega
      rw [if_neg h1]
      simp (disch := omega) only [bindS, nth0, nth1, nth2, nth3, bit, cell0, cell1, cell2, cell3, cell4, cell5, cell6, cell7, cell8, cell9, cell10, cell11, cell12, cell13, cell14, cell15, cell16, cell17, cell18, cell19, cell20, cell21, cell22, cell23, toInt_int, toBool_bool, toStr_str, nil_arr, r3_arr, r4_arr, ints_arr, bools_arr, strs_arr, nI, condT, condF, Bool.not_true, Bool.not_false, Bool.and_true, Bool.true_and, Bool.and_false, Bool.false_and, Bool.or_true, Bool.true_or, Bool.or_false, Bool.false_or, beq_self_eq_true, dTT, dFF, dT, dF, bigI, big0, nilApp, wrapI, wrapU, List.length_set, List.length_replicate, Int.toNat_natCast, castS, castS2, imax, imin, len2, ton1, gd1, c_impl_has, b2, w4, lb, f2] at f1
      simp (disch := omega) only [bindS, nth0, nth1, nth2, nth3, bit, cell0, cell1, cell2, cell3, cell4, cell5, cell6, cell7, cell8, cell9, cell10, cell11, cell12, cell13, cell14, cell15, cell16, cell17, cell18, cell19, cell20, cell21, cell22, cell23, toInt_int, toBool_bool, toStr_str, nil_arr, r3_arr, r4_arr, ints_arr, bools_arr, strs_arr, nI, condT, condF, Bool.not_true, Bool.not_false, Bool.and_true, Bool.true_and, Bool.and_false, Bool.false_and, Bool.or_true, Bool.true_or, Bool.or_false, Bool.false_or, beq_self_eq_true, dTT, dFF, dT, dF, bigI, big0, nilApp, wrapI, wrapU, List.length_set, List.length_replicate, Int.toNat_natCast, castS, castS2, imax, imin, len2, ton0, gd0, c_impl_has, b1, w3, la, f1] at f0
      exact f0
def jmp (l : List Cell) (m b : List Int) (i : Nat) : Int := max (if 0 < i then gap (surf l m b i) (surf l m b (i - 1)) else 0) (if i + 1 < l.length then gap (surf l m b i) (surf l m b (i + 1)) else 0)
theorem gap_nn (a b : Int) : 0 ≤ gap a b := by unfold gap; split <;> omega
theorem gap_abs (a b : Int) : max (0 - (a - b)) (a - b) = gap a b := by unfold gap; split <;> omega
theorem c_spec_l16Jump (k : Nat) (hk : 2000000 ≤ k) (r : Int) (z1 z2 z3 z4 : Bool) (l : List Cell) (m t b : List Int) (F : StF r l m t b) (i : Nat) (hi : i < l.length) :
    go (k + 2) spec_l16Jump [.agg [.int .i64 (r), .arr false (z1) (.r3 (l)), .arr false (z2) (.ints .i64 (m)), .arr false (z3) (.ints .i64 (t)), .arr false (z4) (.ints .i64 (b))], .int .i64 (i : Int)] = some [.int .i64 (jmp l m b i)] := by
  rw [e_spec_l16Jump]
  have L := F.len; have ml := F.ml
  have s0 := surf_le F i; have s1 := surf_le F (i - 1); have s2 := surf_le F (i + 1)
  have g1 := gap_nn (surf l m b i) (surf l m b (i - 1)); have g2 := gap_nn (surf l m b i) (surf l m b (i + 1))
  have e0 := c_spec_l09Surface k (by omega) r z1 z2 z3 z4 l m t b F i hi
  unfold jmp
  by_cases h0 : 0 < i
  · have ci : (i : Int) - 1 = ((i - 1 : Nat) : Int) := by omega
    have e1 := c_spec_l09Surface k (by omega) r z1 z2 z3 z4 l m t b F (i - 1) (by omega)
    rw [if_pos h0]
    by_cases h1 : i + 1 < l.length
    · have e2 := c_spec_l09Surface k (by omega) r z1 z2 z3 z4 l m t b F (i + 1) (by omega)
      rw [if_pos h1]
      simp (disch := omega) only [bindS, nth0, nth1, nth2, nth3, bit, cell0, cell1, cell2, cell3, cell4, cell5, cell6, cell7, cell8, cell9, cell10, cell11, cell12, cell13, cell14, cell15, cell16, cell17, cell18, cell19, cell20, cell21, cell22, cell23, toInt_int, toBool_bool, toStr_str, nil_arr, r3_arr, r4_arr, ints_arr, bools_arr, strs_arr, nI, condT, condF, Bool.not_true, Bool.not_false, Bool.and_true, Bool.true_and, Bool.and_false, Bool.false_and, Bool.or_true, Bool.true_or, Bool.or_false, Bool.false_or, beq_self_eq_true, dTT, dFF, dT, dF, bigI, big0, nilApp, wrapI, wrapU, List.length_set, List.length_replicate, Int.toNat_natCast, castS, castS2, imax, imin, e0, e1, e2, ci, c_spec_l09Gap]
      rw [show ∀ x y : Int, max x y = max y x from fun x y => by omega]
    · rw [if_neg h1]
      simp (disch := omega) only [bindS, nth0, nth1, nth2, nth3, bit, cell0, cell1, cell2, cell3, cell4, cell5, cell6, cell7, cell8, cell9, cell10, cell11, cell12, cell13, cell14, cell15, cell16, cell17, cell18, cell19, cell20, cell21, cell22, cell23, toInt_int, toBool_bool, toStr_str, nil_arr, r3_arr, r4_arr, ints_arr, bools_arr, strs_arr, nI, condT, condF, Bool.not_true, Bool.not_false, Bool.and_true, Bool.true_and, Bool.and_false, Bool.false_and, Bool.or_true, Bool.true_or, Bool.or_false, Bool.false_or, beq_self_eq_true, dTT, dFF, dT, dF, bigI, big0, nilApp, wrapI, wrapU, List.length_set, List.length_replicate, Int.toNat_natCast, castS, castS2, imax, imin, e0, e1, ci, c_spec_l09Gap]
      rw [show max (gap (surf l m b i) (surf l m b (i - 1))) 0 = gap (surf l m b i) (surf l m b (i - 1)) by omega]
  · rw [if_neg h0]
    by_cases h1 : i + 1 < l.length
    · have e2 := c_spec_l09Surface k (by omega) r z1 z2 z3 z4 l m t b F (i + 1) (by omega)
      rw [if_pos h1]
      simp (disch := omega) only [bindS, nth0, nth1, nth2, nth3, bit, cell0, cell1, cell2, cell3, cell4, cell5, cell6, cell7, cell8, cell9, cell10, cell11, cell12, cell13, cell14, cell15, cell16, cell17, cell18, cell19, cell20, cell21, cell22, cell23, toInt_int, toBool_bool, toStr_str, nil_arr, r3_arr, r4_arr, ints_arr, bools_arr, strs_arr, nI, condT, condF, Bool.not_true, Bool.not_false, Bool.and_true, Bool.true_and, Bool.and_false, Bool.false_and, Bool.or_true, Bool.true_or, Bool.or_false, Bool.false_or, beq_self_eq_true, dTT, dFF, dT, dF, bigI, big0, nilApp, wrapI, wrapU, List.length_set, List.length_replicate, Int.toNat_natCast, castS, castS2, imax, imin, e0, e2, c_spec_l09Gap]
      rw [show ∀ x y : Int, max x y = max y x from fun x y => by omega]
    · rw [if_neg h1]
      simp (disch := omega) only [bindS, nth0, nth1, nth2, nth3, bit, cell0, cell1, cell2, cell3, cell4, cell5, cell6, cell7, cell8, cell9, cell10, cell11, cell12, cell13, cell14, cell15, cell16, cell17, cell18, cell19, cell20, cell21, cell22, cell23, toInt_int, toBool_bool, toStr_str, nil_arr, r3_arr, r4_arr, ints_arr, bools_arr, strs_arr, nI, condT, condF, Bool.not_true, Bool.not_false, Bool.and_true, Bool.true_and, Bool.and_false, Bool.false_and, Bool.or_true, Bool.true_or, Bool.or_false, Bool.false_or, beq_self_eq_true, dTT, dFF, dT, dF, bigI, big0, nilApp, wrapI, wrapU, List.length_set, List.length_replicate, Int.toNat_natCast, castS, castS2, imax, imin]
      rfl
set_option maxHeartbeats 4000000 in
theorem c_impl_jump (k : Nat) (hk : 2000000 ≤ k) (r : Int) (z1 z2 z3 z4 : Bool) (l : List Cell) (m t b : List Int) (F : StF r l m t b) (i : Nat) (hi : i < l.length) :
    go (k + 4) impl_State_jump [.agg [.int .i64 (r), .arr false (z1) (.r3 (l)), .arr false (z2) (.ints .i64 (m)), .arr false (z3) (.ints .i64 (t)), .arr false (z4) (.ints .i64 (b))], .int .i64 (i : Int)] = some [.int .i64 (jmp l m b i)] := by
  rw [e_impl_State_jump]
  have L := F.len; have ml := F.ml
  have s0 := surf_le F i; have s1 := surf_le F (i - 1); have s2 := surf_le F (i + 1)
  have g1 := gap_nn (surf l m b i) (surf l m b (i - 1)); have g2 := gap_nn (surf l m b i) (surf l m b (i + 1))
  have e0 := c_impl_surface (k + 2) (by omega) r z1 z2 z3 z4 l m t b F i hi
  have eN := c_impl_neighbours k (by omega) r z1 l F.mesh i hi
  have w3 : IntKind.wrap .i64 ((0 : Int) + 1) = 1 := by rw [wrapI (by omega) (by omega)]; rfl
  have w4 : IntKind.wrap .i64 ((1 : Int) + 1) = 2 := by rw [wrapI (by omega) (by omega)]; rfl
  have n2 : ((2 : Nat) : Int) = 2 := Eq.trans rfl rfl
  have n1 : ((1 : Nat) : Int) = 1 := Eq.trans rfl rfl
  have n0 : ((0 : Nat) : Int) = 0 := Eq.trans rfl rfl
  unfold jmp
  simp (disch := omega) only [bindS, nth0, nth1, nth2, nth3, bit, cell0, cell1, cell2, cell3, cell4, cell5, cell6, cell7, cell8, cell9, cell10, cell11, cell12, cell13, cell14, cell15, cell16, cell17, cell18, cell19, cell20, cell21, cell22, cell23, toInt_int, toBool_bool, toStr_str, nil_arr, r3_arr, r4_arr, ints_arr, bools_arr, strs_arr, nI, condT, condF, Bool.not_true, Bool.not_false, Bool.and_true, Bool.true_and, Bool.and_false, Bool.false_and, Bool.or_true, Bool.true_or, Bool.or_false, Bool.false_or, beq_self_eq_true, dTT, dFF, dT, dF, bigI, big0, nilApp, wrapI, wrapU, List.length_set, List.length_replicate, Int.toNat_natCast, castS, castS2, imax, imin, eN]
  unfold nb
  by_cases h0 : 0 < i
  · have e1 := c_impl_surface (k + 2) (by omega) r z1 z2 z3 z4 l m t b F (i - 1) (by omega)
    rw [if_pos h0, if_pos h0]
    by_cases h1 : i + 1 < l.length
    · have e2 := c_impl_surface (k + 2) (by omega) r z1 z2 z3 z4 l m t b F (i + 1) (by omega)
      rw [if_pos h1, if_pos h1]
      have f0 := fun y => l_impl_State_jump_3 (k + 3) (k + 3 - 1) [] (i : Int) y 2 0 z1 l z2 m z3 t z4 b r false [((i - 1 : Nat) : Int), ((i + 1 : Nat) : Int)]
      have f1 := fun y => l_impl_State_jump_3 (k + 3) (k + 3 - 2) [] (i : Int) y 2 1 z1 l z2 m z3 t z4 b r false [((i - 1 : Nat) : Int), ((i + 1 : Nat) : Int)]
      have f2 := fun y => l_impl_State_jump_3 (k + 3) (k + 3 - 3) [] (i : Int) y 2 2 z1 l z2 m z3 t z4 b r false [((i - 1 : Nat) : Int), ((i + 1 : Nat) : Int)]
      rw [show k + 3 - 1 + 1 = k + 3 by omega] at f0
      rw [show k + 3 - 2 + 1 = k + 3 - 1 by omega] at f1
      rw [show k + 3 - 3 + 1 = k + 3 - 2 by omega] at f2
      simp (disch := omega) only [bindS, nth0, nth1, nth2, nth3, bit, cell0, cell1, cell2, cell3, cell4, cell5, cell6, cell7, cell8, cell9, cell10, cell11, cell12, cell13, cell14, cell15, cell16, cell17, cell18, cell19, cell20, cell21, cell22, cell23, toInt_int, toBool_bool, toStr_str, nil_arr, r3_arr, r4_arr, ints_arr, bools_arr, strs_arr, nI, condT, condF, Bool.not_true, Bool.not_false, Bool.and_true, Bool.true_and, Bool.and_false, Bool.false_and, Bool.or_true, Bool.true_or, Bool.or_false, Bool.false_or, beq_self_eq_true, dTT, dFF, dT, dF, bigI, big0, nilApp, wrapI, wrapU, List.length_set, List.length_replicate, Int.toNat_natCast, castS, castS2, imax, imin, len2] at f2
      simp (disch := omega) only [bindS, nth0, nth1, nth2, nth3, bit, cell0, cell1, cell2, cell3, cell4, cell5, cell6, cell7, cell8, cell9, cell10, cell11, cell12, cell13, cell14, cell15, cell16, cell17, cell18, cell19, cell20, cell21, cell22, cell23, toInt_int, toBool_bool, toStr_str, nil_arr, r3_arr, r4_arr, ints_arr, bools_arr, strs_arr, nI, condT, condF, Bool.not_true, Bool.not_false, Bool.and_true, Bool.true_and, Bool.and_false, Bool.false_and, Bool.or_true, Bool.true_or, Bool.or_false, Bool.false_or, beq_self_eq_true, dTT, dFF, dT, dF, bigI, big0, nilApp, wrapI, wrapU, List.length_set, List.length_replicate, Int.toNat_natCast, castS, castS2, imax, imin, len2, ton1, gd1, e0, e2, c_impl_absolute, gap_abs, w4, f2] at f1
      simp (disch := omega) only [bindS, nth0, nth1, nth2, nth3, bit, cell0, cell1, cell2, cell3, cell4, cell5, cell6, cell7, cell8, cell9, cell10, cell11, cell12, cell13, cell14, cell15, cell16, cell17, cell18, cell19, cell20, cell21, cell22, cell23, toInt_int, toBool_bool, toStr_str, nil_arr, r3_arr, r4_arr, ints_arr, bools_arr, strs_arr, nI, condT, condF, Bool.not_true, Bool.not_false, Bool.and_true, Bool.true_and, Bool.and_false, Bool.false_and, Bool.or_true, Bool.true_or, Bool.or_false, Bool.false_or, beq_self_eq_true, dTT, dFF, dT, dF, bigI, big0, nilApp, wrapI, wrapU, List.length_set, List.length_replicate, Int.toNat_natCast, castS, castS2, imax, imin, len2, ton0, gd0, e0, e1, c_impl_absolute, gap_abs, w3, f1] at f0
      rw [len2, n2, f0, show ∀ x y : Int, 0 ≤ x → max y (max x 0) = max x y from fun x y h => by omega]
      exact g1
    · rw [if_neg h1, if_neg h1]
      have f0 := fun y => l_impl_State_jump_3 (k + 3) (k + 3 - 1) [] (i : Int) y 1 0 z1 l z2 m z3 t z4 b r false [((i - 1 : Nat) : Int)]
      have f1 := fun y => l_impl_State_jump_3 (k + 3) (k + 3 - 2) [] (i : Int) y 1 1 z1 l z2 m z3 t z4 b r false [((i - 1 : Nat) : Int)]
      rw [show k + 3 - 1 + 1 = k + 3 by omega] at f0
      rw [show k + 3 - 2 + 1 = k + 3 - 1 by omega] at f1
      simp (disch := omega) only [bindS, nth0, nth1, nth2, nth3, bit, cell0, cell1, cell2, cell3, cell4, cell5, cell6, cell7, cell8, cell9, cell10, cell11, cell12, cell13, cell14, cell15, cell16, cell17, cell18, cell19, cell20, cell21, cell22, cell23, toInt_int, toBool_bool, toStr_str, nil_arr, r3_arr, r4_arr, ints_arr, bools_arr, strs_arr, nI, condT, condF, Bool.not_true, Bool.not_false, Bool.and_true, Bool.true_and, Bool.and_false, Bool.false_and, Bool.or_true, Bool.true_or, Bool.or_false, Bool.false_or, beq_self_eq_true, dTT, dFF, dT, dF, bigI, big0, nilApp, wrapI, wrapU, List.length_set, List.length_replicate, Int.toNat_natCast, castS, castS2, imax, imin, len1] at f1
      simp (disch := omega) only [bindS, nth0, nth1, nth2, nth3, bit, cell0, cell1, cell2, cell3, cell4, cell5, cell6, cell7, cell8, cell9, cell10, cell11, cell12, cell13, cell14, cell15, cell16, cell17, cell18, cell19, cell20, cell21, cell22, cell23, toInt_int, toBool_bool, toStr_str, nil_arr, r3_arr, r4_arr, ints_arr, bools_arr, strs_arr, nI, condT, condF, Bool.not_true, Bool.not_false, Bool.and_true, Bool.true_and, Bool.and_false, Bool.false_and, Bool.or_true, Bool.true_or, Bool.or_false, Bool.false_or, beq_self_eq_true, dTT, dFF, dT, dF, bigI, big0, nilApp, wrapI, wrapU, List.length_set, List.length_replicate, Int.toNat_natCast, castS, castS2, imax, imin, len1, ton0, gdo, e0, e1, c_impl_absolute, gap_abs, w3, f1] at f0
      rw [len1, n1, f0]
  · rw [if_neg h0, if_neg h0]
    by_cases h1 : i + 1 < l.length
    · have e2 := c_impl_surface (k + 2) (by omega) r z1 z2 z3 z4 l m t b F (i + 1) (by omega)
      rw [if_pos h1, if_pos h1]
      have f0 := fun y => l_impl_State_jump_3 (k + 3) (k + 3 - 1) [] (i : Int) y 1 0 z1 l z2 m z3 t z4 b r false [((i + 1 : Nat) : Int)]
      have f1 := fun y => l_impl_State_jump_3 (k + 3) (k + 3 - 2) [] (i : Int) y 1 1 z1 l z2 m z3 t z4 b r false [((i + 1 : Nat) : Int)]
      rw [show k + 3 - 1 + 1 = k + 3 by omega] at f0
      rw [show k + 3 - 2 + 1 = k + 3 - 1 by omega] at f1
      simp (disch := omega) only [bindS, nth0, nth1, nth2, nth3, bit, cell0, cell1, cell2, cell3, cell4, cell5, cell6, cell7, cell8, cell9, cell10, cell11, cell12, cell13, cell14, cell15, cell16, cell17, cell18, cell19, cell20, cell21, cell22, cell23, toInt_int, toBool_bool, toStr_str, nil_arr, r3_arr, r4_arr, ints_arr, bools_arr, strs_arr, nI, condT, condF, Bool.not_true, Bool.not_false, Bool.and_true, Bool.true_and, Bool.and_false, Bool.false_and, Bool.or_true, Bool.true_or, Bool.or_false, Bool.false_or, beq_self_eq_true, dTT, dFF, dT, dF, bigI, big0, nilApp, wrapI, wrapU, List.length_set, List.length_replicate, Int.toNat_natCast, castS, castS2, imax, imin, len1] at f1
      simp (disch := omega) only [bindS, nth0, nth1, nth2, nth3, bit, cell0, cell1, cell2, cell3, cell4, cell5, cell6, cell7, cell8, cell9, cell10, cell11, cell12, cell13, cell14, cell15, cell16, cell17, cell18, cell19, cell20, cell21, cell22, cell23, toInt_int, toBool_bool, toStr_str, nil_arr, r3_arr, r4_arr, ints_arr, bools_arr, strs_arr, nI, condT, condF, Bool.not_true, Bool.not_false, Bool.and_true, Bool.true_and, Bool.and_false, Bool.false_and, Bool.or_true, Bool.true_or, Bool.or_false, Bool.false_or, beq_self_eq_true, dTT, dFF, dT, dF, bigI, big0, nilApp, wrapI, wrapU, List.length_set, List.length_replicate, Int.toNat_natCast, castS, castS2, imax, imin, len1, ton0, gdo, e0, e2, c_impl_absolute, gap_abs, w3, f1] at f0
      rw [len1, n1, f0, show ∀ x : Int, max x 0 = max 0 x from fun x => by omega]
    · rw [if_neg h1, if_neg h1]
      have f0 := fun y => l_impl_State_jump_3 (k + 3) (k + 3 - 1) [] (i : Int) y 0 0 z1 l z2 m z3 t z4 b r false []
      rw [show k + 3 - 1 + 1 = k + 3 by omega] at f0
      simp (disch := omega) only [bindS, nth0, nth1, nth2, nth3, bit, cell0, cell1, cell2, cell3, cell4, cell5, cell6, cell7, cell8, cell9, cell10, cell11, cell12, cell13, cell14, cell15, cell16, cell17, cell18, cell19, cell20, cell21, cell22, cell23, toInt_int, toBool_bool, toStr_str, nil_arr, r3_arr, r4_arr, ints_arr, bools_arr, strs_arr, nI, condT, condF, Bool.not_true, Bool.not_false, Bool.and_true, Bool.true_and, Bool.and_false, Bool.false_and, Bool.or_true, Bool.true_or, Bool.or_false, Bool.false_or, beq_self_eq_true, dTT, dFF, dT, dF, bigI, big0, nilApp, wrapI, wrapU, List.length_set, List.length_replicate, Int.toNat_natCast, castS, castS2, imax, imin, len0] at f0
      rw [len0, n0, f0]
      rfl
def wsh (l : List Cell) (m b : List Int) (hi lo : Int) (i : Nat) : Int := if hi < jmp l m b i ∧ levAt l i < 4 then 1 else if jmp l m b i < lo ∧ 0 < levAt l i then -1 else 0
theorem tab_succ (n : Nat) (g : Nat → Int) : tab (n + 1) g = tab n g ++ [g n] := by
  unfold tab; rw [List.range_succ, List.map_append]; rfl
theorem jmp_bd {r : Int} {l : List Cell} {m t b : List Int} (F : StF r l m t b) (i : Nat) : 0 ≤ jmp l m b i ∧ jmp l m b i ≤ 161000000 := by
  have s0 := surf_le F i; have s1 := surf_le F (i - 1); have s2 := surf_le F (i + 1)
  unfold jmp gap
  by_cases h0 : 0 < i
  · rw [if_pos h0]
    by_cases h1 : i + 1 < l.length
    · rw [if_pos h1]; omega
    · rw [if_neg h1]; omega
  · rw [if_neg h0]
    by_cases h1 : i + 1 < l.length
    · rw [if_pos h1]; omega
    · rw [if_neg h1]; omega
theorem m_spec_Wishes (k : Nat) (hk : 2000000 ≤ k) (fu : List (Nat × Nat)) (hi lo r : Int) (z1 z2 z3 z4 : Bool) (l : List Cell) (m t b : List Int) (F : StF r l m t b) : ∀ (N i : Nat), i ≤ l.length → l.length - i < N →
    lp (k + 2) spec_l16Wishes [] fu 3 (N) (s_spec_l16Wishes_3 hi lo (i : Int) z1 l z2 m z3 t z4 b r false (tab i (wsh l m b hi lo))) = some [.arr true false (.ints .i64 (tab l.length (wsh l m b hi lo)))]
  | 0, i, hl, hN => by omega
  | N + 1, i, hl, hN => by
    rw [l_spec_l16Wishes_3]
    have L := F.len; have ml := F.ml
    by_cases g : i < l.length
    · have IH := m_spec_Wishes k hk fu hi lo r z1 z2 z3 z4 l m t b F N (i + 1) (by omega) (by omega)
      have eJ := c_spec_l16Jump k (by omega) r z1 z2 z3 z4 l m t b F i g
      have la : ∀ x : Int, (tab i (wsh l m b hi lo) ++ [x]).length = i + 1 := fun x => by rw [List.length_append, tab_len]; rfl
      rw [tab_succ] at IH
      have jb := jmp_bd F i
      simp only [wsh, levAt] at IH
      by_cases h1 : hi < jmp l m b i
      · by_cases h2 : (l.getD i zz3).2.1 < 4
        · rw [if_pos ⟨h1, h2⟩] at IH; simp (disch := omega) only [bindS, nth0, nth1, nth2, nth3, bit, cell0, cell1, cell2, cell3, cell4, cell5, cell6, cell7, cell8, cell9, cell10, cell11, cell12, cell13, cell14, cell15, cell16, cell17, cell18, cell19, cell20, cell21, cell22, cell23, toInt_int, toBool_bool, toStr_str, nil_arr, r3_arr, r4_arr, ints_arr, bools_arr, strs_arr, nI, condT, condF, Bool.not_true, Bool.not_false, Bool.and_true, Bool.true_and, Bool.and_false, Bool.false_and, Bool.or_true, Bool.true_or, Bool.or_false, Bool.false_or, beq_self_eq_true, dTT, dFF, dT, dF, bigI, big0, nilApp, wrapI, wrapU, List.length_set, List.length_replicate, Int.toNat_natCast, castS, castS2, imax, imin, eJ, la, IH]
        · rw [if_neg (fun h => h2 h.2)] at IH
          by_cases h3 : jmp l m b i < lo
          · have h4 : 0 < (l.getD i zz3).2.1 := by omega
            rw [if_pos ⟨h3, h4⟩] at IH; simp (disch := omega) only [bindS, nth0, nth1, nth2, nth3, bit, cell0, cell1, cell2, cell3, cell4, cell5, cell6, cell7, cell8, cell9, cell10, cell11, cell12, cell13, cell14, cell15, cell16, cell17, cell18, cell19, cell20, cell21, cell22, cell23, toInt_int, toBool_bool, toStr_str, nil_arr, r3_arr, r4_arr, ints_arr, bools_arr, strs_arr, nI, condT, condF, Bool.not_true, Bool.not_false, Bool.and_true, Bool.true_and, Bool.and_false, Bool.false_and, Bool.or_true, Bool.true_or, Bool.or_false, Bool.false_or, beq_self_eq_true, dTT, dFF, dT, dF, bigI, big0, nilApp, wrapI, wrapU, List.length_set, List.length_replicate, Int.toNat_natCast, castS, castS2, imax, imin, eJ, la, IH]
          · rw [if_neg (fun h => h3 h.1)] at IH; simp (disch := omega) only [bindS, nth0, nth1, nth2, nth3, bit, cell0, cell1, cell2, cell3, cell4, cell5, cell6, cell7, cell8, cell9, cell10, cell11, cell12, cell13, cell14, cell15, cell16, cell17, cell18, cell19, cell20, cell21, cell22, cell23, toInt_int, toBool_bool, toStr_str, nil_arr, r3_arr, r4_arr, ints_arr, bools_arr, strs_arr, nI, condT, condF, Bool.not_true, Bool.not_false, Bool.and_true, Bool.true_and, Bool.and_false, Bool.false_and, Bool.or_true, Bool.true_or, Bool.or_false, Bool.false_or, beq_self_eq_true, dTT, dFF, dT, dF, bigI, big0, nilApp, wrapI, wrapU, List.length_set, List.length_replicate, Int.toNat_natCast, castS, castS2, imax, imin, eJ, la, IH]
      · rw [if_neg (fun h => h1 h.1)] at IH
        by_cases h3 : jmp l m b i < lo
        · by_cases h4 : 0 < (l.getD i zz3).2.1
          · rw [if_pos ⟨h3, h4⟩] at IH; simp (disch := omega) only [bindS, nth0, nth1, nth2, nth3, bit, cell0, cell1, cell2, cell3, cell4, cell5, cell6, cell7, cell8, cell9, cell10, cell11, cell12, cell13, cell14, cell15, cell16, cell17, cell18, cell19, cell20, cell21, cell22, cell23, toInt_int, toBool_bool, toStr_str, nil_arr, r3_arr, r4_arr, ints_arr, bools_arr, strs_arr, nI, condT, condF, Bool.not_true, Bool.not_false, Bool.and_true, Bool.true_and, Bool.and_false, Bool.false_and, Bool.or_true, Bool.true_or, Bool.or_false, Bool.false_or, beq_self_eq_true, dTT, dFF, dT, dF, bigI, big0, nilApp, wrapI, wrapU, List.length_set, List.length_replicate, Int.toNat_natCast, castS, castS2, imax, imin, eJ, la, IH]
          · rw [if_neg (fun h => h4 h.2)] at IH; simp (disch := omega) only [bindS, nth0, nth1, nth2, nth3, bit, cell0, cell1, cell2, cell3, cell4, cell5, cell6, cell7, cell8, cell9, cell10, cell11, cell12, cell13, cell14, cell15, cell16, cell17, cell18, cell19, cell20, cell21, cell22, cell23, toInt_int, toBool_bool, toStr_str, nil_arr, r3_arr, r4_arr, ints_arr, bools_arr, strs_arr, nI, condT, condF, Bool.not_true, Bool.not_false, Bool.and_true, Bool.true_and, Bool.and_false, Bool.false_and, Bool.or_true, Bool.true_or, Bool.or_false, Bool.false_or, beq_self_eq_true, dTT, dFF, dT, dF, bigI, big0, nilApp, wrapI, wrapU, List.length_set, List.length_replicate, Int.toNat_natCast, castS, castS2, imax, imin, eJ, la, IH]
        · rw [if_neg (fun h => h3 h.1)] at IH; simp (disch := omega) only [bindS, nth0, nth1, nth2, nth3, bit, cell0, cell1, cell2, cell3, cell4, cell5, cell6, cell7, cell8, cell9, cell10, cell11, cell12, cell13, cell14, cell15, cell16, cell17, cell18, cell19, cell20, cell21, cell22, cell23, toInt_int, toBool_bool, toStr_str, nil_arr, r3_arr, r4_arr, ints_arr, bools_arr, strs_arr, nI, condT, condF, Bool.not_true, Bool.not_false, Bool.and_true, Bool.true_and, Bool.and_false, Bool.false_and, Bool.or_true, Bool.true_or, Bool.or_false, Bool.false_or, beq_self_eq_true, dTT, dFF, dT, dF, bigI, big0, nilApp, wrapI, wrapU, List.length_set, List.length_replicate, Int.toNat_natCast, castS, castS2, imax, imin, eJ, la, IH]
    · simp (disch := omega) only [bindS, nth0, nth1, nth2, nth3, bit, cell0, cell1, cell2, cell3, cell4, cell5, cell6, cell7, cell8, cell9, cell10, cell11, cell12, cell13, cell14, cell15, cell16, cell17, cell18, cell19, cell20, cell21, cell22, cell23, toInt_int, toBool_bool, toStr_str, nil_arr, r3_arr, r4_arr, ints_arr, bools_arr, strs_arr, nI, condT, condF, Bool.not_true, Bool.not_false, Bool.and_true, Bool.true_and, Bool.and_false, Bool.false_and, Bool.or_true, Bool.true_or, Bool.or_false, Bool.false_or, beq_self_eq_true, dTT, dFF, dT, dF, bigI, big0, nilApp, wrapI, wrapU, List.length_set, List.length_replicate, Int.toNat_natCast, castS, castS2, imax, imin]
      rw [show i = l.length by omega]
theorem m_impl_Wishes (k : Nat) (hk : 2000000 ≤ k) (fu : List (Nat × Nat)) (hi lo r : Int) (z1 z2 z3 z4 : Bool) (l : List Cell) (m t b : List Int) (F : StF r l m t b) : ∀ (N i : Nat), i ≤ l.length → l.length - i < N →
    lp (k + 8) impl_Wishes [] fu 5 (N) (s_impl_Wishes_5 hi lo (l.length : Int) (i : Int) z1 l z2 m z3 t z4 b r false (tab i (wsh l m b hi lo))) = some [.arr true false (.ints .i64 (tab l.length (wsh l m b hi lo)))]
  | 0, i, hl, hN => by omega
  | N + 1, i, hl, hN => by
    rw [l_impl_Wishes_5]
    have L := F.len; have ml := F.ml
    by_cases g : i < l.length
    · have IH := m_impl_Wishes k hk fu hi lo r z1 z2 z3 z4 l m t b F N (i + 1) (by omega) (by omega)
      have eJ := c_impl_jump (k + 4) (by omega) r z1 z2 z3 z4 l m t b F i g
      have la : ∀ x : Int, (tab i (wsh l m b hi lo) ++ [x]).length = i + 1 := fun x => by rw [List.length_append, tab_len]; rfl
      rw [tab_succ] at IH
      have jb := jmp_bd F i
      simp only [wsh, levAt] at IH
      by_cases h1 : hi < jmp l m b i
      · by_cases h2 : (l.getD i zz3).2.1 < 4
        · rw [if_pos ⟨h1, h2⟩] at IH; simp (disch := omega) only [bindS, nth0, nth1, nth2, nth3, bit, cell0, cell1, cell2, cell3, cell4, cell5, cell6, cell7, cell8, cell9, cell10, cell11, cell12, cell13, cell14, cell15, cell16, cell17, cell18, cell19, cell20, cell21, cell22, cell23, toInt_int, toBool_bool, toStr_str, nil_arr, r3_arr, r4_arr, ints_arr, bools_arr, strs_arr, nI, condT, condF, Bool.not_true, Bool.not_false, Bool.and_true, Bool.true_and, Bool.and_false, Bool.false_and, Bool.or_true, Bool.true_or, Bool.or_false, Bool.false_or, beq_self_eq_true, dTT, dFF, dT, dF, bigI, big0, nilApp, wrapI, wrapU, List.length_set, List.length_replicate, Int.toNat_natCast, castS, castS2, imax, imin, eJ, la, IH]
        · rw [if_neg (fun h => h2 h.2)] at IH
          by_cases h3 : jmp l m b i < lo
          · have h4 : 0 < (l.getD i zz3).2.1 := by omega
            rw [if_pos ⟨h3, h4⟩] at IH; simp (disch := omega) only [bindS, nth0, nth1, nth2, nth3, bit, cell0, cell1, cell2, cell3, cell4, cell5, cell6, cell7, cell8, cell9, cell10, cell11, cell12, cell13, cell14, cell15, cell16, cell17, cell18, cell19, cell20, cell21, cell22, cell23, toInt_int, toBool_bool, toStr_str, nil_arr, r3_arr, r4_arr, ints_arr, bools_arr, strs_arr, nI, condT, condF, Bool.not_true, Bool.not_false, Bool.and_true, Bool.true_and, Bool.and_false, Bool.false_and, Bool.or_true, Bool.true_or, Bool.or_false, Bool.false_or, beq_self_eq_true, dTT, dFF, dT, dF, bigI, big0, nilApp, wrapI, wrapU, List.length_set, List.length_replicate, Int.toNat_natCast, castS, castS2, imax, imin, eJ, la, IH]
          · rw [if_neg (fun h => h3 h.1)] at IH; simp (disch := omega) only [bindS, nth0, nth1, nth2, nth3, bit, cell0, cell1, cell2, cell3, cell4, cell5, cell6, cell7, cell8, cell9, cell10, cell11, cell12, cell13, cell14, cell15, cell16, cell17, cell18, cell19, cell20, cell21, cell22, cell23, toInt_int, toBool_bool, toStr_str, nil_arr, r3_arr, r4_arr, ints_arr, bools_arr, strs_arr, nI, condT, condF, Bool.not_true, Bool.not_false, Bool.and_true, Bool.true_and, Bool.and_false, Bool.false_and, Bool.or_true, Bool.true_or, Bool.or_false, Bool.false_or, beq_self_eq_true, dTT, dFF, dT, dF, bigI, big0, nilApp, wrapI, wrapU, List.length_set, List.length_replicate, Int.toNat_natCast, castS, castS2, imax, imin, eJ, la, IH]
      · rw [if_neg (fun h => h1 h.1)] at IH
        by_cases h3 : jmp l m b i < lo
        · by_cases h4 : 0 < (l.getD i zz3).2.1
          · rw [if_pos ⟨h3, h4⟩] at IH; simp (disch := omega) only [bindS, nth0, nth1, nth2, nth3, bit, cell0, cell1, cell2, cell3, cell4, cell5, cell6, cell7, cell8, cell9, cell10, cell11, cell12, cell13, cell14, cell15, cell16, cell17, cell18, cell19, cell20, cell21, cell22, cell23, toInt_int, toBool_bool, toStr_str, nil_arr, r3_arr, r4_arr, ints_arr, bools_arr, strs_arr, nI, condT, condF, Bool.not_true, Bool.not_false, Bool.and_true, Bool.true_and, Bool.and_false, Bool.false_and, Bool.or_true, Bool.true_or, Bool.or_false, Bool.false_or, beq_self_eq_true, dTT, dFF, dT, dF, bigI, big0, nilApp, wrapI, wrapU, List.length_set, List.length_replicate, Int.toNat_natCast, castS, castS2, imax, imin, eJ, la, IH]
          · rw [if_neg (fun h => h4 h.2)] at IH; simp (disch := omega) only [bindS, nth0, nth1, nth2, nth3, bit, cell0, cell1, cell2, cell3, cell4, cell5, cell6, cell7, cell8, cell9, cell10, cell11, cell12, cell13, cell14, cell15, cell16, cell17, cell18, cell19, cell20, cell21, cell22, cell23, toInt_int, toBool_bool, toStr_str, nil_arr, r3_arr, r4_arr, ints_arr, bools_arr, strs_arr, nI, condT, condF, Bool.not_true, Bool.not_false, Bool.and_true, Bool.true_and, Bool.and_false, Bool.false_and, Bool.or_true, Bool.true_or, Bool.or_false, Bool.false_or, beq_self_eq_true, dTT, dFF, dT, dF, bigI, big0, nilApp, wrapI, wrapU, List.length_set, List.length_replicate, Int.toNat_natCast, castS, castS2, imax, imin, eJ, la, IH]
        · rw [if_neg (fun h => h3 h.1)] at IH; simp (disch := omega) only [bindS, nth0, nth1, nth2, nth3, bit, cell0, cell1, cell2, cell3, cell4, cell5, cell6, cell7, cell8, cell9, cell10, cell11, cell12, cell13, cell14, cell15, cell16, cell17, cell18, cell19, cell20, cell21, cell22, cell23, toInt_int, toBool_bool, toStr_str, nil_arr, r3_arr, r4_arr, ints_arr, bools_arr, strs_arr, nI, condT, condF, Bool.not_true, Bool.not_false, Bool.and_true, Bool.true_and, Bool.and_false, Bool.false_and, Bool.or_true, Bool.true_or, Bool.or_false, Bool.false_or, beq_self_eq_true, dTT, dFF, dT, dF, bigI, big0, nilApp, wrapI, wrapU, List.length_set, List.length_replicate, Int.toNat_natCast, castS, castS2, imax, imin, eJ, la, IH]
    · simp (disch := omega) only [bindS, nth0, nth1, nth2, nth3, bit, cell0, cell1, cell2, cell3, cell4, cell5, cell6, cell7, cell8, cell9, cell10, cell11, cell12, cell13, cell14, cell15, cell16, cell17, cell18, cell19, cell20, cell21, cell22, cell23, toInt_int, toBool_bool, toStr_str, nil_arr, r3_arr, r4_arr, ints_arr, bools_arr, strs_arr, nI, condT, condF, Bool.not_true, Bool.not_false, Bool.and_true, Bool.true_and, Bool.and_false, Bool.false_and, Bool.or_true, Bool.true_or, Bool.or_false, Bool.false_or, beq_self_eq_true, dTT, dFF, dT, dF, bigI, big0, nilApp, wrapI, wrapU, List.length_set, List.length_replicate, Int.toNat_natCast, castS, castS2, imax, imin]
      rw [show i = l.length by omega]
theorem c_spec_Wishes (k : Nat) (hk : 2000000 ≤ k) (hi lo r : Int) (z1 z2 z3 z4 : Bool) (l : List Cell) (m t b : List Int) (F : StF r l m t b) :
    go (k + 3) spec_l16Wishes [.agg [.int .i64 (r), .arr false (z1) (.r3 (l)), .arr false (z2) (.ints .i64 (m)), .arr false (z3) (.ints .i64 (t)), .arr false (z4) (.ints .i64 (b))], .int .i64 hi, .int .i64 lo] = some [.arr true false (.ints .i64 (tab l.length (wsh l m b hi lo)))] := by
  rw [e_spec_l16Wishes]
  have L := F.len
  exact m_spec_Wishes k hk [] hi lo r z1 z2 z3 z4 l m t b F _ 0 (by omega) (by omega)
theorem c_impl_Wishes (k : Nat) (hk : 2000000 ≤ k) (hi lo r : Int) (z1 z2 z3 z4 : Bool) (l : List Cell) (m t b : List Int) (F : StF r l m t b) :
    go (k + 9) impl_Wishes [.agg [.int .i64 (r), .arr false (z1) (.r3 (l)), .arr false (z2) (.ints .i64 (m)), .arr false (z3) (.ints .i64 (t)), .arr false (z4) (.ints .i64 (b))], .int .i64 hi, .int .i64 lo] = some [.arr true false (.ints .i64 (tab l.length (wsh l m b hi lo)))] := by
  rw [e_impl_Wishes]
  have L := F.len; have ml := F.ml; have bl := F.bl; have rr := F.rr
  have g := stF.2 F
  simp (disch := omega) only [bindS, nth0, nth1, nth2, nth3, bit, cell0, cell1, cell2, cell3, cell4, cell5, cell6, cell7, cell8, cell9, cell10, cell11, cell12, cell13, cell14, cell15, cell16, cell17, cell18, cell19, cell20, cell21, cell22, cell23, toInt_int, toBool_bool, toStr_str, nil_arr, r3_arr, r4_arr, ints_arr, bools_arr, strs_arr, nI, condT, condF, Bool.not_true, Bool.not_false, Bool.and_true, Bool.true_and, Bool.and_false, Bool.false_and, Bool.or_true, Bool.true_or, Bool.or_false, Bool.false_or, beq_self_eq_true, dTT, dFF, dT, dF, bigI, big0, nilApp, wrapI, wrapU, List.length_set, List.length_replicate, Int.toNat_natCast, castS, castS2, imax, imin, c_impl_StateOk, g]
  exact m_impl_Wishes k hk [] hi lo r z1 z2 z3 z4 l m t b F _ 0 (by omega) (by omega)
end Go.Proofs.Ytfgccfajhedgdaa
