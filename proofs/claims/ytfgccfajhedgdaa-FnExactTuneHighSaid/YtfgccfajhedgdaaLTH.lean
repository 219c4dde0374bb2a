/- Tuning: both readings agree; the law answers true. -/
import Derived.Test.YtfgccfajhedgdaaXLT
import Derived.Test.YtfgccfajhedgdaaPA5
import Derived.Test.YtfgccfajhedgdaaPL3
namespace Go.Proofs.Ytfgccfajhedgdaa
open Go.Ev
set_option linter.unusedVariables false
set_option linter.unusedSimpArgs false
set_option maxRecDepth 20000
def hq : Nat → Int
  | 0 => 0
  | n + 1 => 2 ^ n
theorem two_pow {p : Nat} (h : p ≤ 30) : 1 ≤ (2 : Int) ^ p ∧ (2 : Int) ^ p ≤ 1073741824 := by
  have e : (2 : Int) ^ p = ((2 ^ p : Nat) : Int) := by rw [Int.natCast_pow]; rfl
  have h1 : 2 ^ p ≤ 2 ^ 30 := Nat.pow_le_pow_right (by omega) h
  have h2 : 0 < 2 ^ p := Nat.two_pow_pos p
  rw [e]
  omega
theorem shN {p : Nat} (h : p ≤ 63) : shiftN .i64 (p : Int) = p := by
  unfold shiftN
  rw [Int.toNat_natCast]
  exact Nat.min_eq_left (by show p ≤ 64; omega)
theorem hq_le {q : Nat} (h : q ≤ 31) : 0 ≤ hq q ∧ hq q ≤ 1073741824 := by
  cases q with
  | zero => exact ⟨Int.le_refl _, by decide⟩
  | succ p => have := two_pow (p := p) (by omega); exact ⟨by show 0 ≤ (2 : Int) ^ p; omega, this.2⟩
theorem hq_next {q : Nat} (h : q ≤ 31) : max (2 * hq q) 1 = hq (q + 1) := by
  cases q with
  | zero => rfl
  | succ p =>
    have := two_pow (p := p) (by omega)
    show max (2 * (2 : Int) ^ p) 1 = 2 ^ (p + 1)
    rw [Int.pow_succ]; omega
def tuneGo (f : Nat → Nat) (most : Int) : Nat → Nat → Int
  | 0, q => -1
  | n + 1, q => if (f q : Int) ≤ most then hq q else tuneGo f most n (q + 1)
def adLen (l : List Cell) (m t b : List Int) (lo : Int) (q : Nat) : Nat := (adS (tab l.length (wsh l m b (hq q) lo)) (l, m, t)).1.length
theorem m_spec_Tune (k : Nat) (hk : 2000000 ≤ k) (fu : List (Nat × Nat)) (lo most r : Int) (l : List Cell) (m t b : List Int) (F : StF r l m t b) : ∀ (N n q : Nat), n + q = 32 → n < N →
    lp (k + 7) spec_TuneHigh [] fu 4 (N) (s_spec_TuneHigh_4 lo most ((q : Int) - 1) false l false m false t false b r) = some [.int .i64 (tuneGo (adLen l m t b lo) most n q)]
  | 0, n, q, hq0, hN => by omega
  | N + 1, 0, q, hq0, hN => by
    rw [l_spec_TuneHigh_4]
    simp (disch := omega) only [bindS, nth0, nth1, nth2, nth3, bit, cell0, cell1, cell2, cell3, cell4, cell5, cell6, cell7, cell8, cell9, cell10, cell11, cell12, cell13, cell14, cell15, cell16, cell17, cell18, cell19, cell20, cell21, cell22, cell23, toInt_int, toBool_bool, toStr_str, nil_arr, r3_arr, r4_arr, ints_arr, bools_arr, strs_arr, nI, condT, condF, Bool.not_true, Bool.not_false, Bool.and_true, Bool.true_and, Bool.and_false, Bool.false_and, Bool.or_true, Bool.true_or, Bool.or_false, Bool.false_or, beq_self_eq_true, dTT, dFF, dT, dF, bigI, big0, nilApp, wrapI, wrapU, List.length_set, List.length_replicate, Int.toNat_natCast, castS, castS2, imax, imin]; rfl
  | N + 1, n + 1, q, hq0, hN => by
    rw [l_spec_TuneHigh_4]
    have IH := m_spec_Tune k hk fu lo most r l m t b F N n (q + 1) (by omega) (by omega)
    have S := ad_U F (hq q) lo
    have SL := S.len; have sm := S.ml
    have eA := c_spec_l17Adapt k (by omega) r l m t b F (hq q) lo
    unfold tuneGo
    cases q with
    | zero =>
      rw [show ((0 : Nat) : Int) - 1 = -1 from rfl]
      rw [show ((0 + 1 : Nat) : Int) - 1 = 0 from rfl] at IH
      rw [show hq 0 = 0 from rfl] at eA
      have w0 : IntKind.wrap .i64 ((-1 : Int) + 1) = 0 := by rw [wrapI (by omega) (by omega)]; rfl
      by_cases g : (adLen l m t b lo 0 : Int) ≤ most
      · rw [if_pos g]
        have g' : ((adS (tab l.length (wsh l m b 0 lo)) (l, m, t)).2.1.length : Int) ≤ most := by unfold adLen at g; rw [show hq 0 = 0 from rfl] at *; omega
        simp (disch := omega) only [bindS, nth0, nth1, nth2, nth3, bit, cell0, cell1, cell2, cell3, cell4, cell5, cell6, cell7, cell8, cell9, cell10, cell11, cell12, cell13, cell14, cell15, cell16, cell17, cell18, cell19, cell20, cell21, cell22, cell23, toInt_int, toBool_bool, toStr_str, nil_arr, r3_arr, r4_arr, ints_arr, bools_arr, strs_arr, nI, condT, condF, Bool.not_true, Bool.not_false, Bool.and_true, Bool.true_and, Bool.and_false, Bool.false_and, Bool.or_true, Bool.true_or, Bool.or_false, Bool.false_or, beq_self_eq_true, dTT, dFF, dT, dF, bigI, big0, nilApp, wrapI, wrapU, List.length_set, List.length_replicate, Int.toNat_natCast, castS, castS2, imax, imin, eA]; rfl
      · rw [if_neg g]
        have g' : ¬ ((adS (tab l.length (wsh l m b 0 lo)) (l, m, t)).2.1.length : Int) ≤ most := by unfold adLen at g; rw [show hq 0 = 0 from rfl] at *; omega
        simp (disch := omega) only [bindS, nth0, nth1, nth2, nth3, bit, cell0, cell1, cell2, cell3, cell4, cell5, cell6, cell7, cell8, cell9, cell10, cell11, cell12, cell13, cell14, cell15, cell16, cell17, cell18, cell19, cell20, cell21, cell22, cell23, toInt_int, toBool_bool, toStr_str, nil_arr, r3_arr, r4_arr, ints_arr, bools_arr, strs_arr, nI, condT, condF, Bool.not_true, Bool.not_false, Bool.and_true, Bool.true_and, Bool.and_false, Bool.false_and, Bool.or_true, Bool.true_or, Bool.or_false, Bool.false_or, beq_self_eq_true, dTT, dFF, dT, dF, bigI, big0, nilApp, wrapI, wrapU, List.length_set, List.length_replicate, Int.toNat_natCast, castS, castS2, imax, imin, eA, w0, IH]
    | succ p =>
      rw [show ((p + 1 : Nat) : Int) - 1 = (p : Int) by omega]
      rw [show ((p + 1 + 1 : Nat) : Int) - 1 = ((p + 1 : Nat) : Int) by omega] at IH
      rw [show hq (p + 1) = 2 ^ p from rfl] at eA
      have tp := two_pow (p := p) (by omega)
      have sh := shN (p := p) (by omega)
      by_cases g : (adLen l m t b lo (p + 1) : Int) ≤ most
      · rw [if_pos g]
        have g' : ((adS (tab l.length (wsh l m b (2 ^ p) lo)) (l, m, t)).2.1.length : Int) ≤ most := by unfold adLen at g; rw [show hq (p + 1) = 2 ^ p from rfl] at *; omega
        simp (disch := omega) only [bindS, nth0, nth1, nth2, nth3, bit, cell0, cell1, cell2, cell3, cell4, cell5, cell6, cell7, cell8, cell9, cell10, cell11, cell12, cell13, cell14, cell15, cell16, cell17, cell18, cell19, cell20, cell21, cell22, cell23, toInt_int, toBool_bool, toStr_str, nil_arr, r3_arr, r4_arr, ints_arr, bools_arr, strs_arr, nI, condT, condF, Bool.not_true, Bool.not_false, Bool.and_true, Bool.true_and, Bool.and_false, Bool.false_and, Bool.or_true, Bool.true_or, Bool.or_false, Bool.false_or, beq_self_eq_true, dTT, dFF, dT, dF, bigI, big0, nilApp, wrapI, wrapU, List.length_set, List.length_replicate, Int.toNat_natCast, castS, castS2, imax, imin, sh, Int.one_mul, eA]; rfl
      · rw [if_neg g]
        have g' : ¬ ((adS (tab l.length (wsh l m b (2 ^ p) lo)) (l, m, t)).2.1.length : Int) ≤ most := by unfold adLen at g; rw [show hq (p + 1) = 2 ^ p from rfl] at *; omega
        simp (disch := omega) only [bindS, nth0, nth1, nth2, nth3, bit, cell0, cell1, cell2, cell3, cell4, cell5, cell6, cell7, cell8, cell9, cell10, cell11, cell12, cell13, cell14, cell15, cell16, cell17, cell18, cell19, cell20, cell21, cell22, cell23, toInt_int, toBool_bool, toStr_str, nil_arr, r3_arr, r4_arr, ints_arr, bools_arr, strs_arr, nI, condT, condF, Bool.not_true, Bool.not_false, Bool.and_true, Bool.true_and, Bool.and_false, Bool.false_and, Bool.or_true, Bool.true_or, Bool.or_false, Bool.false_or, beq_self_eq_true, dTT, dFF, dT, dF, bigI, big0, nilApp, wrapI, wrapU, List.length_set, List.length_replicate, Int.toNat_natCast, castS, castS2, imax, imin, sh, Int.one_mul, eA, IH]
theorem m_impl_Tune (k : Nat) (hk : 2000000 ≤ k) (fu : List (Nat × Nat)) (lo most r : Int) (l : List Cell) (m t b : List Int) (F : StF r l m t b) : ∀ (N n q : Nat), n + q = 32 → n < N →
    lp (k + 11) impl_TuneHigh [] fu 4 (N) (s_impl_TuneHigh_4 lo most (hq q) false l false m false t false b r) = some [.int .i64 (tuneGo (adLen l m t b lo) most n q)]
  | 0, n, q, hq0, hN => by omega
  | N + 1, 0, q, hq0, hN => by
    rw [l_impl_TuneHigh_4]
    have : q = 32 := by omega
    subst this
    have h32 : hq 32 = 2147483648 := by decide
    rw [h32]
    simp (disch := omega) only [bindS, nth0, nth1, nth2, nth3, bit, cell0, cell1, cell2, cell3, cell4, cell5, cell6, cell7, cell8, cell9, cell10, cell11, cell12, cell13, cell14, cell15, cell16, cell17, cell18, cell19, cell20, cell21, cell22, cell23, toInt_int, toBool_bool, toStr_str, nil_arr, r3_arr, r4_arr, ints_arr, bools_arr, strs_arr, nI, condT, condF, Bool.not_true, Bool.not_false, Bool.and_true, Bool.true_and, Bool.and_false, Bool.false_and, Bool.or_true, Bool.true_or, Bool.or_false, Bool.false_or, beq_self_eq_true, dTT, dFF, dT, dF, bigI, big0, nilApp, wrapI, wrapU, List.length_set, List.length_replicate, Int.toNat_natCast, castS, castS2, imax, imin]; rfl
  | N + 1, n + 1, q, hq0, hN => by
    rw [l_impl_TuneHigh_4]
    have IH := m_impl_Tune k hk fu lo most r l m t b F N n (q + 1) (by omega) (by omega)
    have S := ad_U F (hq q) lo
    have SL := S.len; have sm := S.ml
    have eA := c_impl_AdaptState k (by omega) r l m t b F (hq q) lo
    have hb := hq_le (q := q) (by omega)
    have hn := hq_next (q := q) (by omega)
    unfold tuneGo
    by_cases g : (adLen l m t b lo q : Int) ≤ most
    · rw [if_pos g]
      unfold adLen at g
      simp (disch := omega) only [bindS, nth0, nth1, nth2, nth3, bit, cell0, cell1, cell2, cell3, cell4, cell5, cell6, cell7, cell8, cell9, cell10, cell11, cell12, cell13, cell14, cell15, cell16, cell17, cell18, cell19, cell20, cell21, cell22, cell23, toInt_int, toBool_bool, toStr_str, nil_arr, r3_arr, r4_arr, ints_arr, bools_arr, strs_arr, nI, condT, condF, Bool.not_true, Bool.not_false, Bool.and_true, Bool.true_and, Bool.and_false, Bool.false_and, Bool.or_true, Bool.true_or, Bool.or_false, Bool.false_or, beq_self_eq_true, dTT, dFF, dT, dF, bigI, big0, nilApp, wrapI, wrapU, List.length_set, List.length_replicate, Int.toNat_natCast, castS, castS2, imax, imin, eA]
    · rw [if_neg g]
      unfold adLen at g
      simp (disch := omega) only [bindS, nth0, nth1, nth2, nth3, bit, cell0, cell1, cell2, cell3, cell4, cell5, cell6, cell7, cell8, cell9, cell10, cell11, cell12, cell13, cell14, cell15, cell16, cell17, cell18, cell19, cell20, cell21, cell22, cell23, toInt_int, toBool_bool, toStr_str, nil_arr, r3_arr, r4_arr, ints_arr, bools_arr, strs_arr, nI, condT, condF, Bool.not_true, Bool.not_false, Bool.and_true, Bool.true_and, Bool.and_false, Bool.false_and, Bool.or_true, Bool.true_or, Bool.or_false, Bool.false_or, beq_self_eq_true, dTT, dFF, dT, dF, bigI, big0, nilApp, wrapI, wrapU, List.length_set, List.length_replicate, Int.toNat_natCast, castS, castS2, imax, imin, eA, hn, IH]
def tune (r : Int) (l : List Cell) (m t b : List Int) (lo most : Int) : Int := cond (stOk r l m t b) (tuneGo (adLen l m t b lo) most 32 0) (-1)
theorem c_spec_TuneHigh (k : Nat) (hk : 2000000 ≤ k) (a0 : Int) (a1 : List Cell) (a2 a3 a4 : List Int) (b c : Int) (h1 : (a1.length : Int) ≤ 1048576) (h4 : (a4.length : Int) ≤ 1048576) :
    go (k + 8) spec_TuneHigh [.agg [.int .i64 (a0), .arr false (false) (.r3 (a1)), .arr false (false) (.ints .i64 (a2)), .arr false (false) (.ints .i64 (a3)), .arr false (false) (.ints .i64 (a4))], .int .i64 b, .int .i64 c] = some [.int .i64 (tune a0 a1 a2 a3 a4 b c)] := by
  rw [e_spec_TuneHigh]
  unfold tune
  cases g : stOk a0 a1 a2 a3 a4
  · simp (disch := omega) only [bindS, nth0, nth1, nth2, nth3, bit, cell0, cell1, cell2, cell3, cell4, cell5, cell6, cell7, cell8, cell9, cell10, cell11, cell12, cell13, cell14, cell15, cell16, cell17, cell18, cell19, cell20, cell21, cell22, cell23, toInt_int, toBool_bool, toStr_str, nil_arr, r3_arr, r4_arr, ints_arr, bools_arr, strs_arr, nI, condT, condF, Bool.not_true, Bool.not_false, Bool.and_true, Bool.true_and, Bool.and_false, Bool.false_and, Bool.or_true, Bool.true_or, Bool.or_false, Bool.false_or, beq_self_eq_true, dTT, dFF, dT, dF, bigI, big0, nilApp, wrapI, wrapU, List.length_set, List.length_replicate, Int.toNat_natCast, castS, castS2, imax, imin, c_spec_StateOk, g]
  · simp (disch := omega) only [bindS, nth0, nth1, nth2, nth3, bit, cell0, cell1, cell2, cell3, cell4, cell5, cell6, cell7, cell8, cell9, cell10, cell11, cell12, cell13, cell14, cell15, cell16, cell17, cell18, cell19, cell20, cell21, cell22, cell23, toInt_int, toBool_bool, toStr_str, nil_arr, r3_arr, r4_arr, ints_arr, bools_arr, strs_arr, nI, condT, condF, Bool.not_true, Bool.not_false, Bool.and_true, Bool.true_and, Bool.and_false, Bool.false_and, Bool.or_true, Bool.true_or, Bool.or_false, Bool.false_or, beq_self_eq_true, dTT, dFF, dT, dF, bigI, big0, nilApp, wrapI, wrapU, List.length_set, List.length_replicate, Int.toNat_natCast, castS, castS2, imax, imin, c_spec_StateOk, g]
    exact m_spec_Tune k hk [] b c a0 a1 a2 a3 a4 (stF.1 g) (k + 7) 32 0 rfl (by omega)
theorem c_impl_TuneHigh (k : Nat) (hk : 2000000 ≤ k) (a0 : Int) (a1 : List Cell) (a2 a3 a4 : List Int) (b c : Int) (h1 : (a1.length : Int) ≤ 1048576) (h4 : (a4.length : Int) ≤ 1048576) :
    go (k + 12) impl_TuneHigh [.agg [.int .i64 (a0), .arr false (false) (.r3 (a1)), .arr false (false) (.ints .i64 (a2)), .arr false (false) (.ints .i64 (a3)), .arr false (false) (.ints .i64 (a4))], .int .i64 b, .int .i64 c] = some [.int .i64 (tune a0 a1 a2 a3 a4 b c)] := by
  rw [e_impl_TuneHigh]
  unfold tune
  cases g : stOk a0 a1 a2 a3 a4
  · simp (disch := omega) only [bindS, nth0, nth1, nth2, nth3, bit, cell0, cell1, cell2, cell3, cell4, cell5, cell6, cell7, cell8, cell9, cell10, cell11, cell12, cell13, cell14, cell15, cell16, cell17, cell18, cell19, cell20, cell21, cell22, cell23, toInt_int, toBool_bool, toStr_str, nil_arr, r3_arr, r4_arr, ints_arr, bools_arr, strs_arr, nI, condT, condF, Bool.not_true, Bool.not_false, Bool.and_true, Bool.true_and, Bool.and_false, Bool.false_and, Bool.or_true, Bool.true_or, Bool.or_false, Bool.false_or, beq_self_eq_true, dTT, dFF, dT, dF, bigI, big0, nilApp, wrapI, wrapU, List.length_set, List.length_replicate, Int.toNat_natCast, castS, castS2, imax, imin, c_impl_StateOk, g]
  · simp (disch := omega) only [bindS, nth0, nth1, nth2, nth3, bit, cell0, cell1, cell2, cell3, cell4, cell5, cell6, cell7, cell8, cell9, cell10, cell11, cell12, cell13, cell14, cell15, cell16, cell17, cell18, cell19, cell20, cell21, cell22, cell23, toInt_int, toBool_bool, toStr_str, nil_arr, r3_arr, r4_arr, ints_arr, bools_arr, strs_arr, nI, condT, condF, Bool.not_true, Bool.not_false, Bool.and_true, Bool.true_and, Bool.and_false, Bool.false_and, Bool.or_true, Bool.true_or, Bool.or_false, Bool.false_or, beq_self_eq_true, dTT, dFF, dT, dF, bigI, big0, nilApp, wrapI, wrapU, List.length_set, List.length_replicate, Int.toNat_natCast, castS, castS2, imax, imin, c_impl_StateOk, g]
    exact m_impl_Tune k hk [] b c a0 a1 a2 a3 a4 (stF.1 g) (k + 11) 32 0 rfl (by omega)
theorem law_TuneHigh (k : Nat) (hk : 2000000 ≤ k) (a0 : Int) (a1z : Bool) (a1 : List (Int × Int × Int)) (a2z : Bool) (a2 : List Int) (a3z : Bool) (a3 : List Int) (a4z : Bool) (a4 : List Int) (b : Int) (c : Int) (hl_a1 : (a1.length : Int) ≤ 9223372036854775807) (hl_a2 : (a2.length : Int) ≤ 9223372036854775807) (hl_a3 : (a3.length : Int) ≤ 9223372036854775807) (hl_a4 : (a4.length : Int) ≤ 9223372036854775807) : go (k + 13) laws_FnExactTuneHigh [(.agg [(.int .i64 (a0)), (.arr false (a1z) (.r3 (a1))), (.arr false (a2z) (.ints .i64 (a2))), (.arr false (a3z) (.ints .i64 (a3))), (.arr false (a4z) (.ints .i64 (a4)))]), (.int .i64 (b)), (.int .i64 (c))] = some [.bool true] := by
  rw [e_laws_FnExactTuneHigh]
  by_cases h : (a1.length : Int) + a2.length + a3.length + a4.length ≤ 1048576
  · simp (disch := omega) only [bindS, nth0, nth1, nth2, nth3, bit, cell0, cell1, cell2, cell3, cell4, cell5, cell6, cell7, cell8, cell9, cell10, cell11, cell12, cell13, cell14, cell15, cell16, cell17, cell18, cell19, cell20, cell21, cell22, cell23, toInt_int, toBool_bool, toStr_str, nil_arr, r3_arr, r4_arr, ints_arr, bools_arr, strs_arr, nI, condT, condF, Bool.not_true, Bool.not_false, Bool.and_true, Bool.true_and, Bool.and_false, Bool.false_and, Bool.or_true, Bool.true_or, Bool.or_false, Bool.false_or, beq_self_eq_true, dTT, dFF, dT, dF, bigI, big0, nilApp, wrapI, wrapU, List.length_set, List.length_replicate, Int.toNat_natCast, castS, castS2, imax, imin, c_laws_szState, if_pos h, c_laws_toState, c_spec_TuneHigh, c_impl_TuneHigh, c_laws_eqState]
  · simp (disch := omega) only [bindS, nth0, nth1, nth2, nth3, bit, cell0, cell1, cell2, cell3, cell4, cell5, cell6, cell7, cell8, cell9, cell10, cell11, cell12, cell13, cell14, cell15, cell16, cell17, cell18, cell19, cell20, cell21, cell22, cell23, toInt_int, toBool_bool, toStr_str, nil_arr, r3_arr, r4_arr, ints_arr, bools_arr, strs_arr, nI, condT, condF, Bool.not_true, Bool.not_false, Bool.and_true, Bool.true_and, Bool.and_false, Bool.false_and, Bool.or_true, Bool.true_or, Bool.or_false, Bool.false_or, beq_self_eq_true, dTT, dFF, dT, dF, bigI, big0, nilApp, wrapI, wrapU, List.length_set, List.length_replicate, Int.toNat_natCast, castS, castS2, imax, imin, c_laws_szState, if_neg h]
end Go.Proofs.Ytfgccfajhedgdaa
