/- Bars: both readings agree. -/
import Derived.Test.YtfnhcnbpkfhmmaaXB
import Derived.Test.YtfnhcnbpkfhmmaaPV
namespace Go.Proofs.Ytfnhcnbpkfhmmaa
open Go.Ev
set_option linter.unusedVariables false
set_option linter.unusedSimpArgs false
theorem rep_snoc' {α : Type} (out : List α) (v : α) (n : Nat) : (out ++ [v]) ++ List.replicate n v = out ++ List.replicate (n + 1) v := by
  rw [List.append_assoc]; rfl
def mark (l : List Cell) (m b : List Int) (h : Int) (i : Nat) : Int := cond (decide (surf l m b i < h)) 46 35
def bars (l : List Cell) (m b : List Int) (h : Int) : Nat → Nat → List Int
  | 0, _ => []
  | n + 1, i => List.replicate (width (l.getD i zz3).2.1).toNat (mark l m b h i) ++ bars l m b h n (i + 1)
theorem m_impl_Bars11 (k : Nat) (hk : 2000000 ≤ k) (fu : List (Nat × Nat)) (z1 z2 z3 z4 : Bool) (l : List Cell) (m t b : List Int) (r h v L : Int) (i : Nat) (hi : i ≤ 200) (w : Nat) (hw : w ≤ 16) : ∀ (n j : Nat) (out : List Int), j ≤ w → w - j < n → out.length ≤ 100000 + j →
    lp (k + 8) impl_FormatBars [] fu 11 (n) (s_impl_FormatBars_11 h v L (i : Int) (w : Int) (j : Int) z1 l z2 m z3 t z4 b r false out) = lp (k + 8) impl_FormatBars [] fu 5 (fuelOf fu 5) (s_impl_FormatBars_5 h L ((i + 1 : Nat) : Int) z1 l z2 m z3 t z4 b r false (out ++ List.replicate (w - j) v))
  | 0, j, out, hj, hn, ho => by omega
  | n + 1, j, out, hj, hn, ho => by
    rw [l_impl_FormatBars_11]
    by_cases g : j < w
    · have e := m_impl_Bars11 k hk fu z1 z2 z3 z4 l m t b r h v L i hi w hw n (j + 1) (out ++ [v]) (by omega) (by omega) (by simp; omega)
      rw [rep_snoc', show w - (j + 1) + 1 = w - j by omega] at e
      simp (disch := omega) only [bindS, nth0, nth1, nth2, nth3, bit, cell0, cell1, cell2, cell3, cell4, cell5, cell6, cell7, cell8, cell9, cell10, cell11, cell12, cell13, cell14, cell15, cell16, cell17, cell18, cell19, cell20, cell21, cell22, cell23, toInt_int, toBool_bool, toStr_str, nil_arr, r3_arr, r4_arr, ints_arr, bools_arr, strs_arr, nI, cond_true, cond_false, Bool.not_true, Bool.not_false, Bool.and_true, Bool.true_and, Bool.and_false, Bool.false_and, Bool.or_true, Bool.true_or, Bool.or_false, Bool.false_or, beq_self_eq_true, dTT, dFF, dT, dF, bigI, big0, nilApp, wrapI, wrapU, List.length_set, List.length_replicate, Int.toNat_natCast, castS, castS2, imax, imin, List.length_append, List.length_cons, List.length_nil]
      exact e
    · simp (disch := omega) only [bindS, nth0, nth1, nth2, nth3, bit, cell0, cell1, cell2, cell3, cell4, cell5, cell6, cell7, cell8, cell9, cell10, cell11, cell12, cell13, cell14, cell15, cell16, cell17, cell18, cell19, cell20, cell21, cell22, cell23, toInt_int, toBool_bool, toStr_str, nil_arr, r3_arr, r4_arr, ints_arr, bools_arr, strs_arr, nI, cond_true, cond_false, Bool.not_true, Bool.not_false, Bool.and_true, Bool.true_and, Bool.and_false, Bool.false_and, Bool.or_true, Bool.true_or, Bool.or_false, Bool.false_or, beq_self_eq_true, dTT, dFF, dT, dF, bigI, big0, nilApp, wrapI, wrapU, List.length_set, List.length_replicate, Int.toNat_natCast, castS, castS2, imax, imin]
      rw [show w - j = 0 by omega]; simp
theorem m_impl_Bars5 (k : Nat) (hk : 2000000 ≤ k) (z1 z2 z3 z4 : Bool) (l : List Cell) (m t b : List Int) (r h : Int) (F : StF r l m t b) : ∀ (n : Nat) (fu : List (Nat × Nat)) (i : Nat) (out : List Int), i ≤ l.length → l.length - i < n → out.length ≤ 16 * i →
    lp (k + 8) impl_FormatBars [] fu 5 (n) (s_impl_FormatBars_5 h (l.length : Int) (i : Int) z1 l z2 m z3 t z4 b r false out) = some [.str (strL (out ++ bars l m b h (l.length - i) i))]
  | 0, fu, i, out, hi, hn, ho => by omega
  | n + 1, fu, i, out, hi, hn, ho => by
    have hl := F.len; have hm := F.ml
    rw [l_impl_FormatBars_5]
    by_cases g : i < l.length
    · have hw := width_le (l.getD i zz3).2.1
      obtain ⟨w, hw'⟩ : ∃ w : Nat, width (l.getD i zz3).2.1 = (w : Int) := ⟨(width (l.getD i zz3).2.1).toNat, by omega⟩
      rw [show l.length - i = (l.length - (i + 1)) + 1 by omega, bars, hw', Int.toNat_natCast, ← List.append_assoc]
      have es := c_impl_surface (k + 8 - 1) (by omega) r z1 z2 z3 z4 l m t b F i g
      rw [show k + 8 - 1 + 1 = k + 8 by omega] at es
      obtain ⟨S, hS⟩ : ∃ S, surf l m b i = S := ⟨_, rfl⟩
      rw [hS] at es
      simp (disch := omega) only [nI, dT, dF, cond_true, Bool.and_true, Int.toNat_natCast]
      rw [es, bindS, nth0, toInt_int]
      by_cases hd : S < h
      · have hmk : mark l m b h i = 46 := by unfold mark; rw [hS, dT hd]; rfl
        have e := m_impl_Bars11 k hk ((5, n) :: fu) z1 z2 z3 z4 l m t b r h 46 (l.length : Int) i (by omega) w (by omega) (k + 8) 0 out (by omega) (by omega) (by omega)
        have e2 := m_impl_Bars5 k hk z1 z2 z3 z4 l m t b r h F n ((5, n) :: fu) (i + 1) (out ++ List.replicate w 46) (by omega) (by omega) (by simp; omega)
        rw [fuelOf0, Nat.sub_zero] at e
        rw [hmk, dT hd, cond_true, c_impl_WidthOf _ (by omega), bindS, nth0, toInt_int, hw']
        exact Eq.trans e e2
      · have hmk : mark l m b h i = 35 := by unfold mark; rw [hS, dF hd]; rfl
        have e := m_impl_Bars11 k hk ((5, n) :: fu) z1 z2 z3 z4 l m t b r h 35 (l.length : Int) i (by omega) w (by omega) (k + 8) 0 out (by omega) (by omega) (by omega)
        have e2 := m_impl_Bars5 k hk z1 z2 z3 z4 l m t b r h F n ((5, n) :: fu) (i + 1) (out ++ List.replicate w 35) (by omega) (by omega) (by simp; omega)
        rw [fuelOf0, Nat.sub_zero] at e
        rw [hmk, dF hd, cond_false, c_impl_WidthOf _ (by omega), bindS, nth0, toInt_int, hw']
        exact Eq.trans e e2
    · simp (disch := omega) only [bindS, nth0, nth1, nth2, nth3, bit, cell0, cell1, cell2, cell3, cell4, cell5, cell6, cell7, cell8, cell9, cell10, cell11, cell12, cell13, cell14, cell15, cell16, cell17, cell18, cell19, cell20, cell21, cell22, cell23, toInt_int, toBool_bool, toStr_str, nil_arr, r3_arr, r4_arr, ints_arr, bools_arr, strs_arr, nI, cond_true, cond_false, Bool.not_true, Bool.not_false, Bool.and_true, Bool.true_and, Bool.and_false, Bool.false_and, Bool.or_true, Bool.true_or, Bool.or_false, Bool.false_or, beq_self_eq_true, dTT, dFF, dT, dF, bigI, big0, nilApp, wrapI, wrapU, List.length_set, List.length_replicate, Int.toNat_natCast, castS, castS2, imax, imin]
      rw [show l.length - i = 0 by omega]; simp [bars]
theorem c_impl_FormatBars (k : Nat) (hk : 2000000 ≤ k) (a0 : Int) (a1z : Bool) (a1 : List (Int × Int × Int)) (a2z : Bool) (a2 : List Int) (a3z : Bool) (a3 : List Int) (a4z : Bool) (a4 : List Int) (b : Int) (h1 : (a1.length : Int) ≤ 1048576) (h2 : (a4.length : Int) ≤ 1048576) : go (k + 9) impl_FormatBars [(.agg [(.int .i64 (a0)), (.arr false (a1z) (.r3 (a1))), (.arr false (a2z) (.ints .i64 (a2))), (.arr false (a3z) (.ints .i64 (a3))), (.arr false (a4z) (.ints .i64 (a4)))]), (.int .i64 (b))] = some [.str (strL (cond (stOk a0 a1 a2 a3 a4) (bars a1 a2 a4 b a1.length 0) []))] := by
  rw [e_impl_FormatBars]
  simp (disch := omega) only [bindS, nth0, nth1, nth2, nth3, bit, cell0, cell1, cell2, cell3, cell4, cell5, cell6, cell7, cell8, cell9, cell10, cell11, cell12, cell13, cell14, cell15, cell16, cell17, cell18, cell19, cell20, cell21, cell22, cell23, toInt_int, toBool_bool, toStr_str, nil_arr, r3_arr, r4_arr, ints_arr, bools_arr, strs_arr, nI, cond_true, cond_false, Bool.not_true, Bool.not_false, Bool.and_true, Bool.true_and, Bool.and_false, Bool.false_and, Bool.or_true, Bool.true_or, Bool.or_false, Bool.false_or, beq_self_eq_true, dTT, dFF, dT, dF, bigI, big0, nilApp, wrapI, wrapU, List.length_set, List.length_replicate, Int.toNat_natCast, castS, castS2, imax, imin, c_impl_StateOk]
  cases g1 : stOk a0 a1 a2 a3 a4
  · rfl
  have e := m_impl_Bars5 k hk a1z a2z a3z a4z a1 a2 a3 a4 a0 b (stF.1 g1) (k + 8) [] 0 [] (by omega) (by omega) (by simp)
  simp only [List.nil_append] at e
  simp only [Bool.not_true, cond_false, cond_true]
  exact e
theorem m_spec_Bars9 (k : Nat) (hk : 2000000 ≤ k) (fu : List (Nat × Nat)) (z1 z2 z3 z4 : Bool) (l : List Cell) (m t b : List Int) (r h v : Int) (i : Nat) (hi : i < l.length) (hi2 : i ≤ 200) (w : Nat) (hw : width (l.getD i zz3).2.1 = (w : Int)) (hw' : w ≤ 16) : ∀ (n j : Nat) (out : List Int), j ≤ w → w - j < n → out.length ≤ 100000 + j →
    lp (k + 7) spec_FormatBars [] fu 9 (n) (s_spec_FormatBars_9 h (i : Int) v (j : Int) z1 l z2 m z3 t z4 b r false out) = lp (k + 7) spec_FormatBars [] fu 3 (fuelOf fu 3) (s_spec_FormatBars_3 h ((i + 1 : Nat) : Int) z1 l z2 m z3 t z4 b r false (out ++ List.replicate (w - j) v))
  | 0, j, out, hj, hn, ho => by omega
  | n + 1, j, out, hj, hn, ho => by
    rw [l_spec_FormatBars_9]
    by_cases g : j < w
    · have e := m_spec_Bars9 k hk fu z1 z2 z3 z4 l m t b r h v i hi hi2 w hw hw' n (j + 1) (out ++ [v]) (by omega) (by omega) (by simp; omega)
      rw [rep_snoc', show w - (j + 1) + 1 = w - j by omega] at e
      simp (disch := omega) only [bindS, nth0, nth1, nth2, nth3, bit, cell0, cell1, cell2, cell3, cell4, cell5, cell6, cell7, cell8, cell9, cell10, cell11, cell12, cell13, cell14, cell15, cell16, cell17, cell18, cell19, cell20, cell21, cell22, cell23, toInt_int, toBool_bool, toStr_str, nil_arr, r3_arr, r4_arr, ints_arr, bools_arr, strs_arr, nI, cond_true, cond_false, Bool.not_true, Bool.not_false, Bool.and_true, Bool.true_and, Bool.and_false, Bool.false_and, Bool.or_true, Bool.true_or, Bool.or_false, Bool.false_or, beq_self_eq_true, dTT, dFF, dT, dF, bigI, big0, nilApp, wrapI, wrapU, List.length_set, List.length_replicate, Int.toNat_natCast, castS, castS2, imax, imin, c_spec_WidthOf, hw, List.length_append, List.length_cons, List.length_nil]
      exact e
    · simp (disch := omega) only [bindS, nth0, nth1, nth2, nth3, bit, cell0, cell1, cell2, cell3, cell4, cell5, cell6, cell7, cell8, cell9, cell10, cell11, cell12, cell13, cell14, cell15, cell16, cell17, cell18, cell19, cell20, cell21, cell22, cell23, toInt_int, toBool_bool, toStr_str, nil_arr, r3_arr, r4_arr, ints_arr, bools_arr, strs_arr, nI, cond_true, cond_false, Bool.not_true, Bool.not_false, Bool.and_true, Bool.true_and, Bool.and_false, Bool.false_and, Bool.or_true, Bool.true_or, Bool.or_false, Bool.false_or, beq_self_eq_true, dTT, dFF, dT, dF, bigI, big0, nilApp, wrapI, wrapU, List.length_set, List.length_replicate, Int.toNat_natCast, castS, castS2, imax, imin, c_spec_WidthOf, hw]
      rw [show w - j = 0 by omega]; simp
theorem m_spec_Bars3 (k : Nat) (hk : 2000000 ≤ k) (z1 z2 z3 z4 : Bool) (l : List Cell) (m t b : List Int) (r h : Int) (F : StF r l m t b) : ∀ (n : Nat) (fu : List (Nat × Nat)) (i : Nat) (out : List Int), i ≤ l.length → l.length - i < n → out.length ≤ 16 * i →
    lp (k + 7) spec_FormatBars [] fu 3 (n) (s_spec_FormatBars_3 h (i : Int) z1 l z2 m z3 t z4 b r false out) = some [.str (strL (out ++ bars l m b h (l.length - i) i))]
  | 0, fu, i, out, hi, hn, ho => by omega
  | n + 1, fu, i, out, hi, hn, ho => by
    have hl := F.len; have hm := F.ml; have hb := F.bl; have hr := F.rr
    rw [l_spec_FormatBars_3]
    by_cases g : i < l.length
    · have hw := width_le (l.getD i zz3).2.1
      obtain ⟨w, hw'⟩ : ∃ w : Nat, width (l.getD i zz3).2.1 = (w : Int) := ⟨(width (l.getD i zz3).2.1).toNat, by omega⟩
      rw [show l.length - i = (l.length - (i + 1)) + 1 by omega, bars, hw', Int.toNat_natCast, ← List.append_assoc]
      have es := c_spec_l09Surface (k + 7 - 1) (by omega) r z1 z2 z3 z4 l m t b F i g
      rw [show k + 7 - 1 + 1 = k + 7 by omega] at es
      obtain ⟨S, hS⟩ : ∃ S, surf l m b i = S := ⟨_, rfl⟩
      rw [hS] at es
      simp (disch := omega) only [nI, dT, dF, cond_true, Bool.and_true, Int.toNat_natCast]
      rw [c_spec_StateOk _ (by omega) _ _ _ _ _ _ _ _ _ (by omega) (by omega)]
      simp only [bindS, bit, nth0, toBool_bool, stF.2 F, cond_true]
      rw [es, bindS, nth0, toInt_int]
      by_cases hd : S < h
      · have hmk : mark l m b h i = 46 := by unfold mark; rw [hS, dT hd]; rfl
        have e := m_spec_Bars9 k hk ((3, n) :: fu) z1 z2 z3 z4 l m t b r h 46 i g (by omega) w hw' (by omega) (k + 7) 0 out (by omega) (by omega) (by omega)
        have e2 := m_spec_Bars3 k hk z1 z2 z3 z4 l m t b r h F n ((3, n) :: fu) (i + 1) (out ++ List.replicate w 46) (by omega) (by omega) (by simp; omega)
        rw [fuelOf0, Nat.sub_zero] at e
        rw [hmk, dT hd, cond_true]
        exact Eq.trans e e2
      · have hmk : mark l m b h i = 35 := by unfold mark; rw [hS, dF hd]; rfl
        have e := m_spec_Bars9 k hk ((3, n) :: fu) z1 z2 z3 z4 l m t b r h 35 i g (by omega) w hw' (by omega) (k + 7) 0 out (by omega) (by omega) (by omega)
        have e2 := m_spec_Bars3 k hk z1 z2 z3 z4 l m t b r h F n ((3, n) :: fu) (i + 1) (out ++ List.replicate w 35) (by omega) (by omega) (by simp; omega)
        rw [fuelOf0, Nat.sub_zero] at e
        rw [hmk, dF hd, cond_false]
        exact Eq.trans e e2
    · simp (disch := omega) only [bindS, nth0, nth1, nth2, nth3, bit, cell0, cell1, cell2, cell3, cell4, cell5, cell6, cell7, cell8, cell9, cell10, cell11, cell12, cell13, cell14, cell15, cell16, cell17, cell18, cell19, cell20, cell21, cell22, cell23, toInt_int, toBool_bool, toStr_str, nil_arr, r3_arr, r4_arr, ints_arr, bools_arr, strs_arr, nI, cond_true, cond_false, Bool.not_true, Bool.not_false, Bool.and_true, Bool.true_and, Bool.and_false, Bool.false_and, Bool.or_true, Bool.true_or, Bool.or_false, Bool.false_or, beq_self_eq_true, dTT, dFF, dT, dF, bigI, big0, nilApp, wrapI, wrapU, List.length_set, List.length_replicate, Int.toNat_natCast, castS, castS2, imax, imin]
      rw [show l.length - i = 0 by omega]; simp [bars]
theorem c_spec_FormatBars (k : Nat) (hk : 2000000 ≤ k) (a0 : Int) (a1z : Bool) (a1 : List (Int × Int × Int)) (a2z : Bool) (a2 : List Int) (a3z : Bool) (a3 : List Int) (a4z : Bool) (a4 : List Int) (b : Int) (h1 : (a1.length : Int) ≤ 1048576) (h2 : (a4.length : Int) ≤ 1048576) : go (k + 8) spec_FormatBars [(.agg [(.int .i64 (a0)), (.arr false (a1z) (.r3 (a1))), (.arr false (a2z) (.ints .i64 (a2))), (.arr false (a3z) (.ints .i64 (a3))), (.arr false (a4z) (.ints .i64 (a4)))]), (.int .i64 (b))] = some [.str (strL (cond (stOk a0 a1 a2 a3 a4) (bars a1 a2 a4 b a1.length 0) []))] := by
  rw [e_spec_FormatBars]
  cases g1 : stOk a0 a1 a2 a3 a4
  · obtain ⟨m, hm⟩ : ∃ m, k + 7 = m + 1 := ⟨k + 7 - 1, by omega⟩
    have e := l_spec_FormatBars_3 (k + 7) m [] b 0 a1z a1 a2z a2 a3z a3 a4z a4 a0 false []
    rw [← hm] at e
    refine Eq.trans e ?_
    by_cases g : 0 < a2.length
    · simp (disch := omega) only [bindS, nth0, nth1, nth2, nth3, bit, cell0, cell1, cell2, cell3, cell4, cell5, cell6, cell7, cell8, cell9, cell10, cell11, cell12, cell13, cell14, cell15, cell16, cell17, cell18, cell19, cell20, cell21, cell22, cell23, toInt_int, toBool_bool, toStr_str, nil_arr, r3_arr, r4_arr, ints_arr, bools_arr, strs_arr, nI, cond_true, cond_false, Bool.not_true, Bool.not_false, Bool.and_true, Bool.true_and, Bool.and_false, Bool.false_and, Bool.or_true, Bool.true_or, Bool.or_false, Bool.false_or, beq_self_eq_true, dTT, dFF, dT, dF, bigI, big0, nilApp, wrapI, wrapU, List.length_set, List.length_replicate, Int.toNat_natCast, castS, castS2, imax, imin, c_spec_StateOk, g1]
    · simp (disch := omega) only [bindS, nth0, nth1, nth2, nth3, bit, cell0, cell1, cell2, cell3, cell4, cell5, cell6, cell7, cell8, cell9, cell10, cell11, cell12, cell13, cell14, cell15, cell16, cell17, cell18, cell19, cell20, cell21, cell22, cell23, toInt_int, toBool_bool, toStr_str, nil_arr, r3_arr, r4_arr, ints_arr, bools_arr, strs_arr, nI, cond_true, cond_false, Bool.not_true, Bool.not_false, Bool.and_true, Bool.true_and, Bool.and_false, Bool.false_and, Bool.or_true, Bool.true_or, Bool.or_false, Bool.false_or, beq_self_eq_true, dTT, dFF, dT, dF, bigI, big0, nilApp, wrapI, wrapU, List.length_set, List.length_replicate, Int.toNat_natCast, castS, castS2, imax, imin]
  · have F := stF.1 g1
    have e := m_spec_Bars3 k hk a1z a2z a3z a4z a1 a2 a3 a4 a0 b F (k + 7) [] 0 [] (by omega) (by have := F.len; omega) (by simp)
    simp only [List.nil_append] at e
    exact e
end Go.Proofs.Ytfnhcnbpkfhmmaa
