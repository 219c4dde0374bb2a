/- Comparing functions of states: both readings agree. -/
import Derived.Test.YtaoffhlajfkccaaXU
import Derived.Test.YtaoffhlajfkccaaPE
import Derived.Test.YtaoffhlajfkccaaPV
namespace Go.Proofs.Ytaoffhlajfkccaa
open Go.Ev
set_option linter.unusedVariables false
set_option linter.unusedSimpArgs false
def canJoin (r : Int) (l : List Cell) (m t b : List Int) (r' : Int) (l' : List Cell) (m' t' b' : List Int) : Bool :=
  stOk r l m t b && (stOk r' l' m' t' b' && (decide (r + r' ≤ 8) && (decide (isum m + isum m' ≤ 10000000) && decide (gap (levAt l (l.length - 1)) (levAt l' 0) ≤ 1))))
def inEnv : List Int → List Int → List Int → Bool
  | x :: m, lo :: l, hi :: h => inR x lo hi && inEnv m l h
  | _, _, _ => true
theorem m_impl_InEnvelope (k : Nat) (hk : 2000000 ≤ k) (fu : List (Nat × Nat)) (z1 z2 z3 : Bool) (m lo hi : List Int) (hm : (m.length : Int) ≤ 1048576) (h1 : lo.length = m.length) (h2 : hi.length = m.length) : ∀ (n i : Nat), i ≤ m.length → m.length - i < n →
    lp (k + 8) impl_InEnvelope [] fu 4 (n) (s_impl_InEnvelope_4 (m.length : Int) (i : Int) z1 lo z2 hi z3 m) = some [.bool (inEnv (m.drop i) (lo.drop i) (hi.drop i))]
  | 0, i, hi_, hn => by omega
  | n + 1, i, hi_, hn => by
    rw [l_impl_InEnvelope_4]
    by_cases h : i < m.length
    · rw [drop_at h 0, drop_at (l := lo) (by omega : i < lo.length) 0, drop_at (l := hi) (by omega : i < hi.length) 0]
      have e := m_impl_InEnvelope k hk fu z1 z2 z3 m lo hi hm h1 h2 n (i + 1) (by omega) (by omega)
      simp (disch := omega) only [bindS, nth0, nth1, nth2, nth3, bit, cell0, cell1, cell2, cell3, cell4, cell5, cell6, cell7, cell8, cell9, cell10, cell11, cell12, cell13, cell14, cell15, cell16, cell17, cell18, cell19, cell20, cell21, cell22, cell23, toInt_int, toBool_bool, toStr_str, nil_arr, r3_arr, r4_arr, ints_arr, bools_arr, strs_arr, nI, condT, condF, Bool.not_true, Bool.not_false, Bool.and_true, Bool.true_and, Bool.and_false, Bool.false_and, Bool.or_true, Bool.true_or, Bool.or_false, Bool.false_or, beq_self_eq_true, dTT, dFF, dT, dF, bigI, big0, nilApp, wrapI, wrapU, List.length_set, List.length_replicate, Int.toNat_natCast, castS, castS2, imax, imin, c_impl_within, inEnv, e, cond_and]
    · rw [List.drop_of_length_le (by omega)]
      simp (disch := omega) only [bindS, nth0, nth1, nth2, nth3, bit, cell0, cell1, cell2, cell3, cell4, cell5, cell6, cell7, cell8, cell9, cell10, cell11, cell12, cell13, cell14, cell15, cell16, cell17, cell18, cell19, cell20, cell21, cell22, cell23, toInt_int, toBool_bool, toStr_str, nil_arr, r3_arr, r4_arr, ints_arr, bools_arr, strs_arr, nI, condT, condF, Bool.not_true, Bool.not_false, Bool.and_true, Bool.true_and, Bool.and_false, Bool.false_and, Bool.or_true, Bool.true_or, Bool.or_false, Bool.false_or, beq_self_eq_true, dTT, dFF, dT, dF, bigI, big0, nilApp, wrapI, wrapU, List.length_set, List.length_replicate, Int.toNat_natCast, castS, castS2, imax, imin, inEnv]
def inEnvelope (r : Int) (l : List Cell) (m t b lo hi : List Int) : Bool := stOk r l m t b && (decide (lo.length = m.length) && (decide (hi.length = m.length) && inEnv m lo hi))
theorem c_impl_InEnvelope (k : Nat) (hk : 2000000 ≤ k) (a0 : Int) (a1z : Bool) (a1 : List (Int × Int × Int)) (a2z : Bool) (a2 : List Int) (a3z : Bool) (a3 : List Int) (a4z : Bool) (a4 : List Int) (bz : Bool) (b : List Int) (cz : Bool) (c : List Int) (h1 : (a1.length : Int) ≤ 1048576) (h2 : (a4.length : Int) ≤ 1048576) : go (k + 9) impl_InEnvelope [(.agg [(.int .i64 (a0)), (.arr false (a1z) (.r3 (a1))), (.arr false (a2z) (.ints .i64 (a2))), (.arr false (a3z) (.ints .i64 (a3))), (.arr false (a4z) (.ints .i64 (a4)))]), (.arr false (bz) (.ints .i64 (b))), (.arr false (cz) (.ints .i64 (c)))] = some [.bool (inEnvelope a0 a1 a2 a3 a4 b c)] := by
  rw [e_impl_InEnvelope]
  simp (disch := omega) only [bindS, nth0, nth1, nth2, nth3, bit, cell0, cell1, cell2, cell3, cell4, cell5, cell6, cell7, cell8, cell9, cell10, cell11, cell12, cell13, cell14, cell15, cell16, cell17, cell18, cell19, cell20, cell21, cell22, cell23, toInt_int, toBool_bool, toStr_str, nil_arr, r3_arr, r4_arr, ints_arr, bools_arr, strs_arr, nI, condT, condF, Bool.not_true, Bool.not_false, Bool.and_true, Bool.true_and, Bool.and_false, Bool.false_and, Bool.or_true, Bool.true_or, Bool.or_false, Bool.false_or, beq_self_eq_true, dTT, dFF, dT, dF, bigI, big0, nilApp, wrapI, wrapU, List.length_set, List.length_replicate, Int.toNat_natCast, castS, castS2, imax, imin, c_impl_StateOk]
  unfold inEnvelope
  cases g1 : stOk a0 a1 a2 a3 a4
  · rfl
  have F := stF.1 g1; have := F.ml
  by_cases q1 : b.length = a2.length
  case neg => simp (disch := omega) only [bindS, nth0, nth1, nth2, nth3, bit, cell0, cell1, cell2, cell3, cell4, cell5, cell6, cell7, cell8, cell9, cell10, cell11, cell12, cell13, cell14, cell15, cell16, cell17, cell18, cell19, cell20, cell21, cell22, cell23, toInt_int, toBool_bool, toStr_str, nil_arr, r3_arr, r4_arr, ints_arr, bools_arr, strs_arr, nI, condT, condF, Bool.not_true, Bool.not_false, Bool.and_true, Bool.true_and, Bool.and_false, Bool.false_and, Bool.or_true, Bool.true_or, Bool.or_false, Bool.false_or, beq_self_eq_true, dTT, dFF, dT, dF, bigI, big0, nilApp, wrapI, wrapU, List.length_set, List.length_replicate, Int.toNat_natCast, castS, castS2, imax, imin]
  by_cases q2 : c.length = a2.length
  case neg => simp (disch := omega) only [bindS, nth0, nth1, nth2, nth3, bit, cell0, cell1, cell2, cell3, cell4, cell5, cell6, cell7, cell8, cell9, cell10, cell11, cell12, cell13, cell14, cell15, cell16, cell17, cell18, cell19, cell20, cell21, cell22, cell23, toInt_int, toBool_bool, toStr_str, nil_arr, r3_arr, r4_arr, ints_arr, bools_arr, strs_arr, nI, condT, condF, Bool.not_true, Bool.not_false, Bool.and_true, Bool.true_and, Bool.and_false, Bool.false_and, Bool.or_true, Bool.true_or, Bool.or_false, Bool.false_or, beq_self_eq_true, dTT, dFF, dT, dF, bigI, big0, nilApp, wrapI, wrapU, List.length_set, List.length_replicate, Int.toNat_natCast, castS, castS2, imax, imin]
  have e := m_impl_InEnvelope k hk [] bz cz a2z a2 b c (by omega) q1 q2 (k + 8) 0 (by omega) (by omega)
  simp (disch := omega) only [bindS, nth0, nth1, nth2, nth3, bit, cell0, cell1, cell2, cell3, cell4, cell5, cell6, cell7, cell8, cell9, cell10, cell11, cell12, cell13, cell14, cell15, cell16, cell17, cell18, cell19, cell20, cell21, cell22, cell23, toInt_int, toBool_bool, toStr_str, nil_arr, r3_arr, r4_arr, ints_arr, bools_arr, strs_arr, nI, condT, condF, Bool.not_true, Bool.not_false, Bool.and_true, Bool.true_and, Bool.and_false, Bool.false_and, Bool.or_true, Bool.true_or, Bool.or_false, Bool.false_or, beq_self_eq_true, dTT, dFF, dT, dF, bigI, big0, nilApp, wrapI, wrapU, List.length_set, List.length_replicate, Int.toNat_natCast, castS, castS2, imax, imin]
  exact e
def agr : List Bool → List Int → List Int → List Int → List Int → Bool
  | s :: ss, m :: ms, m' :: ms', t :: ts, t' :: ts' => (!s || (decide (m = m') && decide (t = t'))) && agr ss ms ms' ts ts'
  | _, _, _, _, _ => true
theorem m_impl_Agree (k : Nat) (hk : 2000000 ≤ k) (fu : List (Nat × Nat)) (z1 z2 z3 z4 y1 y2 y3 y4 zs : Bool) (r r' : Int) (l l' : List Cell) (m t b m' t' b' : List Int) (s : List Bool) (hm : (m.length : Int) ≤ 1048576) (h1 : m'.length = m.length) (h2 : t.length = m.length) (h3 : t'.length = m.length) (h4 : s.length = m.length) : ∀ (n i : Nat), i ≤ m.length → m.length - i < n →
    lp (k + 8) impl_Agree [] fu 4 (n) (s_impl_Agree_4 (s.length : Int) (i : Int) z1 l z2 m z3 t z4 b r y1 l' y2 m' y3 t' y4 b' r' zs s) = some [.bool (agr (s.drop i) (m.drop i) (m'.drop i) (t.drop i) (t'.drop i))]
  | 0, i, hi_, hn => by omega
  | n + 1, i, hi_, hn => by
    rw [l_impl_Agree_4]
    by_cases h : i < m.length
    · rw [drop_at h 0, drop_at (l := m') (by omega : i < m'.length) 0, drop_at (l := t) (by omega : i < t.length) 0, drop_at (l := t') (by omega : i < t'.length) 0, drop_at (l := s) (by omega : i < s.length) false]
      have e := m_impl_Agree k hk fu z1 z2 z3 z4 y1 y2 y3 y4 zs r r' l l' m t b m' t' b' s hm h1 h2 h3 h4 n (i + 1) (by omega) (by omega)
      cases hs : s.getD i false
      · simp (disch := omega) only [bindS, nth0, nth1, nth2, nth3, bit, cell0, cell1, cell2, cell3, cell4, cell5, cell6, cell7, cell8, cell9, cell10, cell11, cell12, cell13, cell14, cell15, cell16, cell17, cell18, cell19, cell20, cell21, cell22, cell23, toInt_int, toBool_bool, toStr_str, nil_arr, r3_arr, r4_arr, ints_arr, bools_arr, strs_arr, nI, condT, condF, Bool.not_true, Bool.not_false, Bool.and_true, Bool.true_and, Bool.and_false, Bool.false_and, Bool.or_true, Bool.true_or, Bool.or_false, Bool.false_or, beq_self_eq_true, dTT, dFF, dT, dF, bigI, big0, nilApp, wrapI, wrapU, List.length_set, List.length_replicate, Int.toNat_natCast, castS, castS2, imax, imin, hs, agr, e]
      · simp (disch := omega) only [bindS, nth0, nth1, nth2, nth3, bit, cell0, cell1, cell2, cell3, cell4, cell5, cell6, cell7, cell8, cell9, cell10, cell11, cell12, cell13, cell14, cell15, cell16, cell17, cell18, cell19, cell20, cell21, cell22, cell23, toInt_int, toBool_bool, toStr_str, nil_arr, r3_arr, r4_arr, ints_arr, bools_arr, strs_arr, nI, condT, condF, Bool.not_true, Bool.not_false, Bool.and_true, Bool.true_and, Bool.and_false, Bool.false_and, Bool.or_true, Bool.true_or, Bool.or_false, Bool.false_or, beq_self_eq_true, dTT, dFF, dT, dF, bigI, big0, nilApp, wrapI, wrapU, List.length_set, List.length_replicate, Int.toNat_natCast, castS, castS2, imax, imin, hs, agr, e, cond_and, Bool.and_assoc]
    · rw [List.drop_of_length_le (l := s) (by omega)]
      simp (disch := omega) only [bindS, nth0, nth1, nth2, nth3, bit, cell0, cell1, cell2, cell3, cell4, cell5, cell6, cell7, cell8, cell9, cell10, cell11, cell12, cell13, cell14, cell15, cell16, cell17, cell18, cell19, cell20, cell21, cell22, cell23, toInt_int, toBool_bool, toStr_str, nil_arr, r3_arr, r4_arr, ints_arr, bools_arr, strs_arr, nI, condT, condF, Bool.not_true, Bool.not_false, Bool.and_true, Bool.true_and, Bool.and_false, Bool.false_and, Bool.or_true, Bool.true_or, Bool.or_false, Bool.false_or, beq_self_eq_true, dTT, dFF, dT, dF, bigI, big0, nilApp, wrapI, wrapU, List.length_set, List.length_replicate, Int.toNat_natCast, castS, castS2, imax, imin, agr]
def agree (r : Int) (l : List Cell) (m t b : List Int) (r' : Int) (l' : List Cell) (m' t' b' : List Int) (s : List Bool) : Bool :=
  stOk r l m t b && (stOk r' l' m' t' b' && (sameM r r' l l' && (decide (b = b') && (decide (s.length = m.length) && agr s m m' t t'))))
theorem sameM_len {r r' : Int} {l l' : List Cell} (h : sameM r r' l l' = true) : r = r' ∧ l = l' := by simpa [sameM] using h
theorem c_impl_Agree (k : Nat) (hk : 2000000 ≤ k) (a0 : Int) (a1z : Bool) (a1 : List (Int × Int × Int)) (a2z : Bool) (a2 : List Int) (a3z : Bool) (a3 : List Int) (a4z : Bool) (a4 : List Int) (b0 : Int) (b1z : Bool) (b1 : List (Int × Int × Int)) (b2z : Bool) (b2 : List Int) (b3z : Bool) (b3 : List Int) (b4z : Bool) (b4 : List Int) (cz : Bool) (c : List Bool) (h1 : (a1.length : Int) ≤ 1048576) (h2 : (b1.length : Int) ≤ 1048576) (h3 : (a4.length : Int) ≤ 1048576) (h4 : (b4.length : Int) ≤ 1048576) : go (k + 9) impl_Agree [(.agg [(.int .i64 (a0)), (.arr false (a1z) (.r3 (a1))), (.arr false (a2z) (.ints .i64 (a2))), (.arr false (a3z) (.ints .i64 (a3))), (.arr false (a4z) (.ints .i64 (a4)))]), (.agg [(.int .i64 (b0)), (.arr false (b1z) (.r3 (b1))), (.arr false (b2z) (.ints .i64 (b2))), (.arr false (b3z) (.ints .i64 (b3))), (.arr false (b4z) (.ints .i64 (b4)))]), (.arr false (cz) (.bools (c)))] = some [.bool (agree a0 a1 a2 a3 a4 b0 b1 b2 b3 b4 c)] := by
  rw [e_impl_Agree]
  simp (disch := omega) only [bindS, nth0, nth1, nth2, nth3, bit, cell0, cell1, cell2, cell3, cell4, cell5, cell6, cell7, cell8, cell9, cell10, cell11, cell12, cell13, cell14, cell15, cell16, cell17, cell18, cell19, cell20, cell21, cell22, cell23, toInt_int, toBool_bool, toStr_str, nil_arr, r3_arr, r4_arr, ints_arr, bools_arr, strs_arr, nI, condT, condF, Bool.not_true, Bool.not_false, Bool.and_true, Bool.true_and, Bool.and_false, Bool.false_and, Bool.or_true, Bool.true_or, Bool.or_false, Bool.false_or, beq_self_eq_true, dTT, dFF, dT, dF, bigI, big0, nilApp, wrapI, wrapU, List.length_set, List.length_replicate, Int.toNat_natCast, castS, castS2, imax, imin, c_impl_StateOk, c_impl_SameMesh, c_slices_Equal_int]
  unfold agree
  cases g1 : stOk a0 a1 a2 a3 a4
  · rfl
  cases g2 : stOk b0 b1 b2 b3 b4
  · rfl
  cases g3 : sameM a0 b0 a1 b1
  · rfl
  have F := stF.1 g1; have G := stF.1 g2; have e1 := (sameM_len g3).2; have := F.ml; have := F.tl; have := G.ml; have := G.tl
  by_cases g4 : a4 = b4
  case neg => simp only [dF g4]; rfl
  by_cases g5 : c.length = a2.length
  case neg => simp (disch := omega) only [bindS, nth0, nth1, nth2, nth3, bit, cell0, cell1, cell2, cell3, cell4, cell5, cell6, cell7, cell8, cell9, cell10, cell11, cell12, cell13, cell14, cell15, cell16, cell17, cell18, cell19, cell20, cell21, cell22, cell23, toInt_int, toBool_bool, toStr_str, nil_arr, r3_arr, r4_arr, ints_arr, bools_arr, strs_arr, nI, condT, condF, Bool.not_true, Bool.not_false, Bool.and_true, Bool.true_and, Bool.and_false, Bool.false_and, Bool.or_true, Bool.true_or, Bool.or_false, Bool.false_or, beq_self_eq_true, dTT, dFF, dT, dF, bigI, big0, nilApp, wrapI, wrapU, List.length_set, List.length_replicate, Int.toNat_natCast, castS, castS2, imax, imin]
  have e := m_impl_Agree k hk [] a1z a2z a3z a4z b1z b2z b3z b4z cz a0 b0 a1 b1 a2 a3 a4 b2 b3 b4 c (by omega) (by rw [G.ml, F.ml, e1]) (by omega) (by rw [G.tl, F.ml, e1]) g5 (k + 8) 0 (by omega) (by omega)
  simp only [List.drop_zero] at e
  simp only [dT g4]
  simp (disch := omega) only [bindS, nth0, nth1, nth2, nth3, bit, cell0, cell1, cell2, cell3, cell4, cell5, cell6, cell7, cell8, cell9, cell10, cell11, cell12, cell13, cell14, cell15, cell16, cell17, cell18, cell19, cell20, cell21, cell22, cell23, toInt_int, toBool_bool, toStr_str, nil_arr, r3_arr, r4_arr, ints_arr, bools_arr, strs_arr, nI, condT, condF, Bool.not_true, Bool.not_false, Bool.and_true, Bool.true_and, Bool.and_false, Bool.false_and, Bool.or_true, Bool.true_or, Bool.or_false, Bool.false_or, beq_self_eq_true, dTT, dFF, dT, dF, bigI, big0, nilApp, wrapI, wrapU, List.length_set, List.length_replicate, Int.toNat_natCast, castS, castS2, imax, imin]
  exact e
end Go.Proofs.Ytaoffhlajfkccaa
