/- Profiles and their distance: both readings agree. -/
import Derived.Test.YtfnhcnbpkfhmmaaPU2
namespace Go.Proofs.Ytfnhcnbpkfhmmaa
open Go.Ev
set_option linter.unusedVariables false
set_option linter.unusedSimpArgs false
def prof : List Cell → List Int → List Int
  | x :: l, m :: ms => List.replicate (width x.2.1).toNat (m * pow2 x.2.1) ++ prof l ms
  | _, _ => []
theorem prof_len : ∀ (l : List Cell) (m : List Int) (r p : Int), meshGo r p l = true → m.length = l.length → p + (prof l m).length = 16 * r
  | [], m, r, p, h, hm => by
    have := (mesh_facts [] r p h).2.2.2.2 rfl
    simp [prof, this]
  | x :: l, [], r, p, h, hm => by simp at hm
  | x :: l, y :: m, r, p, h, hm => by
    simp only [meshGo, Bool.and_eq_true, decide_eq_true_eq] at h
    have w := width_le x.2.1
    have ih := prof_len l m r _ h.2.2 (by simpa using hm)
    simp only [prof, List.length_append, List.length_replicate]; omega
theorem prof_le : ∀ (l : List Cell) (m : List Int), (∀ i, inR (l.getD i zz3).2.1 0 4 = true) → (∀ x ∈ m, 0 ≤ x ∧ x ≤ 10000000) → ∀ y ∈ prof l m, 0 ≤ y ∧ y ≤ 160000000
  | [], m, hl, hm, y, hy => by simp [prof] at hy
  | x :: l, [], hl, hm, y, hy => by simp [prof] at hy
  | x :: l, a :: m, hl, hm, y, hy => by
    simp only [prof, List.mem_append, List.mem_replicate] at hy
    rcases hy with ⟨_, rfl⟩ | hy
    · have h0 := hl 0
      simp only [List.getD_cons_zero] at h0
      have h1 := hm a (by simp)
      have := mulp h0 h1.1
      omega
    · exact prof_le l m (fun i => by simpa using hl (i + 1)) (fun z hz => hm z (by simp [hz])) y hy
theorem rep_snoc {α : Type} (out : List α) (v : α) (n : Nat) : (out ++ [v]) ++ List.replicate n v = out ++ List.replicate (n + 1) v := by
  rw [List.append_assoc]; rfl
theorem m_impl_Prof8 (k : Nat) (hk : 2000000 ≤ k) (fu : List (Nat × Nat)) (z1 z2 z3 z4 : Bool) (l : List Cell) (m t b : List Int) (r : Int) (x16 lv x18 L : Int) (i : Nat) (hi : i < m.length) (hm : (m.length : Int) ≤ 1048576) (hv : inR lv 0 4 = true) (h0 : 0 ≤ m.getD i 0) (h1 : m.getD i 0 ≤ 10000000) (w : Nat) (hw : w ≤ 16) : ∀ (n j : Nat) (out : List Int), j ≤ w → w - j < n → out.length ≤ 100000 + j →
    lp (k + 8) impl_ProfileOf [] fu 8 (n) (s_impl_ProfileOf_8 (i : Int) L (i : Int) (w : Int) (j : Int) z1 l z2 m z3 t z4 b r false out x16 lv x18) = lp (k + 8) impl_ProfileOf [] fu 5 (fuelOf fu 5) (s_impl_ProfileOf_5 L ((i + 1 : Nat) : Int) z1 l z2 m z3 t z4 b r false (out ++ List.replicate (w - j) (m.getD i 0 * pow2 lv)))
  | 0, j, out, hj, hn, ho => by omega
  | n + 1, j, out, hj, hn, ho => by
    rw [l_impl_ProfileOf_8]
    by_cases h : j < w
    · have e := m_impl_Prof8 k hk fu z1 z2 z3 z4 l m t b r x16 lv x18 L i hi hm hv h0 h1 w hw n (j + 1) (out ++ [m.getD i 0 * pow2 lv]) (by omega) (by omega) (by simp; omega)
      have q := mulp hv h0
      have q2 := lev0 hv
      rw [rep_snoc, show w - (j + 1) + 1 = w - j by omega] at e
      simp (disch := omega) only [bindS, nth0, nth1, nth2, nth3, bit, cell0, cell1, cell2, cell3, cell4, toInt_int, toBool_bool, toStr_str, nil_arr, r3_arr, r4_arr, ints_arr, bools_arr, strs_arr, nI, cond_true, cond_false, Bool.not_true, Bool.not_false, Bool.and_true, Bool.true_and, Bool.and_false, Bool.false_and, Bool.or_true, Bool.true_or, Bool.or_false, Bool.false_or, dTT, dFF, dT, dF, bigI, big0, nilApp, wrapI, wrapU, List.length_set, List.length_replicate, Int.toNat_natCast, castS, castS2, imax, imin, shp hv, List.length_append, List.length_cons, List.length_nil]
      exact e
    · simp (disch := omega) only [bindS, nth0, nth1, nth2, nth3, bit, cell0, cell1, cell2, cell3, cell4, toInt_int, toBool_bool, toStr_str, nil_arr, r3_arr, r4_arr, ints_arr, bools_arr, strs_arr, nI, cond_true, cond_false, Bool.not_true, Bool.not_false, Bool.and_true, Bool.true_and, Bool.and_false, Bool.false_and, Bool.or_true, Bool.true_or, Bool.or_false, Bool.false_or, dTT, dFF, dT, dF, bigI, big0, nilApp, wrapI, wrapU, List.length_set, List.length_replicate, Int.toNat_natCast, castS, castS2, imax, imin]
      rw [show w - j = 0 by omega]; simp
theorem m_impl_Prof5 (k : Nat) (hk : 2000000 ≤ k) (z1 z2 z3 z4 : Bool) (l : List Cell) (m t b : List Int) (r : Int) (F : StF r l m t b) : ∀ (n : Nat) (fu : List (Nat × Nat)) (i : Nat) (out : List Int), i ≤ l.length → l.length - i < n → out.length ≤ 16 * i →
    lp (k + 8) impl_ProfileOf [] fu 5 (n) (s_impl_ProfileOf_5 (l.length : Int) (i : Int) z1 l z2 m z3 t z4 b r false out) = some [.arr true false (.ints .i64 (out ++ prof (l.drop i) (m.drop i)))]
  | 0, fu, i, out, hi, hn, ho => by omega
  | n + 1, fu, i, out, hi, hn, ho => by
    have hl := F.len; have hm := F.ml
    rw [l_impl_ProfileOf_5]
    by_cases h : i < l.length
    · have hw := width_le (l.getD i zz3).2.1
      obtain ⟨w, hw'⟩ : ∃ w : Nat, width (l.getD i zz3).2.1 = (w : Int) := ⟨(width (l.getD i zz3).2.1).toNat, by omega⟩
      have hat := F.at i
      have e := m_impl_Prof8 k hk ((5, n) :: fu) z1 z2 z3 z4 l m t b r (l.getD i zz3).1 (l.getD i zz3).2.1 (l.getD i zz3).2.2 (l.length : Int) i (by omega) (by omega) (F.lev i) (by omega) (by omega) w (by omega) (k + 8) 0 out (by omega) (by omega) (by omega)
      have e2 := m_impl_Prof5 k hk z1 z2 z3 z4 l m t b r F n ((5, n) :: fu) (i + 1) (out ++ List.replicate w (m.getD i 0 * pow2 (l.getD i zz3).2.1)) (by omega) (by omega) (by simp; omega)
      rw [drop_at h zz3, drop_at (l := m) (by omega : i < m.length) 0]
      rw [fuelOf0, Nat.sub_zero] at e
      simp (disch := omega) only [bindS, nth0, nth1, nth2, nth3, bit, cell0, cell1, cell2, cell3, cell4, toInt_int, toBool_bool, toStr_str, nil_arr, r3_arr, r4_arr, ints_arr, bools_arr, strs_arr, nI, cond_true, cond_false, Bool.not_true, Bool.not_false, Bool.and_true, Bool.true_and, Bool.and_false, Bool.false_and, Bool.or_true, Bool.true_or, Bool.or_false, Bool.false_or, dTT, dFF, dT, dF, bigI, big0, nilApp, wrapI, wrapU, List.length_set, List.length_replicate, Int.toNat_natCast, castS, castS2, imax, imin, c_impl_WidthOf, hw']
      refine Eq.trans e (Eq.trans e2 ?_)
      simp only [prof, hw', Int.toNat_natCast, List.append_assoc]
    · rw [List.drop_of_length_le (by omega)]
      simp (disch := omega) only [bindS, nth0, nth1, nth2, nth3, bit, cell0, cell1, cell2, cell3, cell4, toInt_int, toBool_bool, toStr_str, nil_arr, r3_arr, r4_arr, ints_arr, bools_arr, strs_arr, nI, cond_true, cond_false, Bool.not_true, Bool.not_false, Bool.and_true, Bool.true_and, Bool.and_false, Bool.false_and, Bool.or_true, Bool.true_or, Bool.or_false, Bool.false_or, dTT, dFF, dT, dF, bigI, big0, nilApp, wrapI, wrapU, List.length_set, List.length_replicate, Int.toNat_natCast, castS, castS2, imax, imin, prof, List.append_nil]
theorem c_impl_ProfileOf (k : Nat) (hk : 2000000 ≤ k) (a0 : Int) (a1z : Bool) (a1 : List (Int × Int × Int)) (a2z : Bool) (a2 : List Int) (a3z : Bool) (a3 : List Int) (a4z : Bool) (a4 : List Int) (h1 : (a1.length : Int) ≤ 1048576) (h2 : (a4.length : Int) ≤ 1048576) : go (k + 9) impl_ProfileOf [(.agg [(.int .i64 (a0)), (.arr false (a1z) (.r3 (a1))), (.arr false (a2z) (.ints .i64 (a2))), (.arr false (a3z) (.ints .i64 (a3))), (.arr false (a4z) (.ints .i64 (a4)))])] = some [.arr true (!stOk a0 a1 a2 a3 a4) (.ints .i64 (cond (stOk a0 a1 a2 a3 a4) (prof a1 a2) []))] := by
  rw [e_impl_ProfileOf]
  simp (disch := omega) only [bindS, nth0, nth1, nth2, nth3, bit, cell0, cell1, cell2, cell3, cell4, toInt_int, toBool_bool, toStr_str, nil_arr, r3_arr, r4_arr, ints_arr, bools_arr, strs_arr, nI, cond_true, cond_false, Bool.not_true, Bool.not_false, Bool.and_true, Bool.true_and, Bool.and_false, Bool.false_and, Bool.or_true, Bool.true_or, Bool.or_false, Bool.false_or, dTT, dFF, dT, dF, bigI, big0, nilApp, wrapI, wrapU, List.length_set, List.length_replicate, Int.toNat_natCast, castS, castS2, imax, imin, c_impl_StateOk]
  cases g1 : stOk a0 a1 a2 a3 a4
  · rfl
  have e := m_impl_Prof5 k hk a1z a2z a3z a4z a1 a2 a3 a4 a0 (stF.1 g1) (k + 8) [] 0 [] (by omega) (by omega) (by simp)
  simp only [List.drop_zero, List.nil_append] at e
  simp only [Bool.not_true, cond_false, cond_true]
  exact e
theorem m_spec_Prof6 (k : Nat) (hk : 2000000 ≤ k) (fu : List (Nat × Nat)) (z1 z2 z3 z4 : Bool) (l : List Cell) (m t b : List Int) (r : Int) (F : StF r l m t b) (i : Nat) (hi : i < l.length) (w : Nat) (hw : width (l.getD i zz3).2.1 = (w : Int)) (hw' : w ≤ 16) : ∀ (n j : Nat) (out : List Int), j ≤ w → w - j < n → out.length ≤ 100000 + j →
    lp (k + 2) spec_l33Profile [] fu 6 (n) (s_spec_l33Profile_6 (i : Int) (j : Int) z1 l z2 m z3 t z4 b r false out) = lp (k + 2) spec_l33Profile [] fu 3 (fuelOf fu 3) (s_spec_l33Profile_3 ((i + 1 : Nat) : Int) z1 l z2 m z3 t z4 b r false (out ++ List.replicate (w - j) (m.getD i 0 * pow2 (l.getD i zz3).2.1)))
  | 0, j, out, hj, hn, ho => by omega
  | n + 1, j, out, hj, hn, ho => by
    have hv := F.lev i; have hat := F.at i; have hl := F.len; have hm := F.ml
    have q := mulp hv hat.1
    have q2 := lev0 hv
    rw [l_spec_l33Profile_6]
    by_cases h : j < w
    · have e := m_spec_Prof6 k hk fu z1 z2 z3 z4 l m t b r F i hi w hw hw' n (j + 1) (out ++ [m.getD i 0 * pow2 (l.getD i zz3).2.1]) (by omega) (by omega) (by simp; omega)
      rw [rep_snoc, show w - (j + 1) + 1 = w - j by omega] at e
      simp (disch := omega) only [bindS, nth0, nth1, nth2, nth3, bit, cell0, cell1, cell2, cell3, cell4, toInt_int, toBool_bool, toStr_str, nil_arr, r3_arr, r4_arr, ints_arr, bools_arr, strs_arr, nI, cond_true, cond_false, Bool.not_true, Bool.not_false, Bool.and_true, Bool.true_and, Bool.and_false, Bool.false_and, Bool.or_true, Bool.true_or, Bool.or_false, Bool.false_or, dTT, dFF, dT, dF, bigI, big0, nilApp, wrapI, wrapU, List.length_set, List.length_replicate, Int.toNat_natCast, castS, castS2, imax, imin, c_spec_WidthOf, hw, shp hv, List.length_append, List.length_cons, List.length_nil]
      exact e
    · simp (disch := omega) only [bindS, nth0, nth1, nth2, nth3, bit, cell0, cell1, cell2, cell3, cell4, toInt_int, toBool_bool, toStr_str, nil_arr, r3_arr, r4_arr, ints_arr, bools_arr, strs_arr, nI, cond_true, cond_false, Bool.not_true, Bool.not_false, Bool.and_true, Bool.true_and, Bool.and_false, Bool.false_and, Bool.or_true, Bool.true_or, Bool.or_false, Bool.false_or, dTT, dFF, dT, dF, bigI, big0, nilApp, wrapI, wrapU, List.length_set, List.length_replicate, Int.toNat_natCast, castS, castS2, imax, imin, c_spec_WidthOf, hw]
      rw [show w - j = 0 by omega]; simp
theorem m_spec_Prof3 (k : Nat) (hk : 2000000 ≤ k) (z1 z2 z3 z4 : Bool) (l : List Cell) (m t b : List Int) (r : Int) (F : StF r l m t b) : ∀ (n : Nat) (fu : List (Nat × Nat)) (i : Nat) (out : List Int), i ≤ l.length → l.length - i < n → out.length ≤ 16 * i →
    lp (k + 2) spec_l33Profile [] fu 3 (n) (s_spec_l33Profile_3 (i : Int) z1 l z2 m z3 t z4 b r false out) = some [.arr true false (.ints .i64 (out ++ prof (l.drop i) (m.drop i)))]
  | 0, fu, i, out, hi, hn, ho => by omega
  | n + 1, fu, i, out, hi, hn, ho => by
    have hl := F.len; have hm := F.ml
    rw [l_spec_l33Profile_3]
    by_cases h : i < l.length
    · have hw := width_le (l.getD i zz3).2.1
      obtain ⟨w, hw'⟩ : ∃ w : Nat, width (l.getD i zz3).2.1 = (w : Int) := ⟨(width (l.getD i zz3).2.1).toNat, by omega⟩
      have e := m_spec_Prof6 k hk ((3, n) :: fu) z1 z2 z3 z4 l m t b r F i h w hw' (by omega) (k + 2) 0 out (by omega) (by omega) (by omega)
      have e2 := m_spec_Prof3 k hk z1 z2 z3 z4 l m t b r F n ((3, n) :: fu) (i + 1) (out ++ List.replicate w (m.getD i 0 * pow2 (l.getD i zz3).2.1)) (by omega) (by omega) (by simp; omega)
      rw [drop_at h zz3, drop_at (l := m) (by omega : i < m.length) 0]
      rw [fuelOf0, Nat.sub_zero] at e
      simp (disch := omega) only [bindS, nth0, nth1, nth2, nth3, bit, cell0, cell1, cell2, cell3, cell4, toInt_int, toBool_bool, toStr_str, nil_arr, r3_arr, r4_arr, ints_arr, bools_arr, strs_arr, nI, cond_true, cond_false, Bool.not_true, Bool.not_false, Bool.and_true, Bool.true_and, Bool.and_false, Bool.false_and, Bool.or_true, Bool.true_or, Bool.or_false, Bool.false_or, dTT, dFF, dT, dF, bigI, big0, nilApp, wrapI, wrapU, List.length_set, List.length_replicate, Int.toNat_natCast, castS, castS2, imax, imin]
      refine Eq.trans e (Eq.trans e2 ?_)
      simp only [prof, hw', Int.toNat_natCast, List.append_assoc]
    · rw [List.drop_of_length_le (by omega)]
      simp (disch := omega) only [bindS, nth0, nth1, nth2, nth3, bit, cell0, cell1, cell2, cell3, cell4, toInt_int, toBool_bool, toStr_str, nil_arr, r3_arr, r4_arr, ints_arr, bools_arr, strs_arr, nI, cond_true, cond_false, Bool.not_true, Bool.not_false, Bool.and_true, Bool.true_and, Bool.and_false, Bool.false_and, Bool.or_true, Bool.true_or, Bool.or_false, Bool.false_or, dTT, dFF, dT, dF, bigI, big0, nilApp, wrapI, wrapU, List.length_set, List.length_replicate, Int.toNat_natCast, castS, castS2, imax, imin, prof, List.append_nil]
theorem c_spec_l33Profile (k : Nat) (hk : 2000000 ≤ k) (a0 : Int) (a1z : Bool) (a1 : List (Int × Int × Int)) (a2z : Bool) (a2 : List Int) (a3z : Bool) (a3 : List Int) (a4z : Bool) (a4 : List Int) (F : StF a0 a1 a2 a3 a4) : go (k + 3) spec_l33Profile [(.agg [(.int .i64 (a0)), (.arr false (a1z) (.r3 (a1))), (.arr false (a2z) (.ints .i64 (a2))), (.arr false (a3z) (.ints .i64 (a3))), (.arr false (a4z) (.ints .i64 (a4)))])] = some [.arr true false (.ints .i64 (prof a1 a2))] := by
  rw [e_spec_l33Profile]
  have e := m_spec_Prof3 k hk a1z a2z a3z a4z a1 a2 a3 a4 a0 F (k + 2) [] 0 [] (by omega) (by have := F.len; omega) (by simp)
  simp only [List.drop_zero, List.nil_append] at e
  exact e
theorem c_spec_ProfileOf (k : Nat) (hk : 2000000 ≤ k) (a0 : Int) (a1z : Bool) (a1 : List (Int × Int × Int)) (a2z : Bool) (a2 : List Int) (a3z : Bool) (a3 : List Int) (a4z : Bool) (a4 : List Int) (h1 : (a1.length : Int) ≤ 1048576) (h2 : (a4.length : Int) ≤ 1048576) : go (k + 8) spec_ProfileOf [(.agg [(.int .i64 (a0)), (.arr false (a1z) (.r3 (a1))), (.arr false (a2z) (.ints .i64 (a2))), (.arr false (a3z) (.ints .i64 (a3))), (.arr false (a4z) (.ints .i64 (a4)))])] = some [.arr true false (.ints .i64 (cond (stOk a0 a1 a2 a3 a4) (prof a1 a2) []))] := by
  rw [e_spec_ProfileOf]
  simp (disch := omega) only [bindS, nth0, nth1, nth2, nth3, bit, cell0, cell1, cell2, cell3, cell4, toInt_int, toBool_bool, toStr_str, nil_arr, r3_arr, r4_arr, ints_arr, bools_arr, strs_arr, nI, cond_true, cond_false, Bool.not_true, Bool.not_false, Bool.and_true, Bool.true_and, Bool.and_false, Bool.false_and, Bool.or_true, Bool.true_or, Bool.or_false, Bool.false_or, dTT, dFF, dT, dF, bigI, big0, nilApp, wrapI, wrapU, List.length_set, List.length_replicate, Int.toNat_natCast, castS, castS2, imax, imin, c_spec_StateOk]
  cases g1 : stOk a0 a1 a2 a3 a4
  · rfl
  simp only [Bool.not_true, cond_false]
  rw [c_spec_l33Profile _ (by omega) _ _ _ _ _ _ _ _ _ (stF.1 g1)]
  simp (disch := omega) only [bindS, nth0, nth1, nth2, nth3, bit, cell0, cell1, cell2, cell3, cell4, toInt_int, toBool_bool, toStr_str, nil_arr, r3_arr, r4_arr, ints_arr, bools_arr, strs_arr, nI, cond_true, cond_false, Bool.not_true, Bool.not_false, Bool.and_true, Bool.true_and, Bool.and_false, Bool.false_and, Bool.or_true, Bool.true_or, Bool.or_false, Bool.false_or, dTT, dFF, dT, dF, bigI, big0, nilApp, wrapI, wrapU, List.length_set, List.length_replicate, Int.toNat_natCast, castS, castS2, imax, imin]
def gaps : List Int → List Int → List Int
  | x :: l, y :: m => gap x y :: gaps l m
  | _, _ => []
theorem gaps_len : ∀ (l m : List Int), l.length = m.length → (gaps l m).length = l.length
  | [], m, h => by simp [gaps]
  | x :: l, [], h => by simp at h
  | x :: l, y :: m, h => by simp only [gaps, List.length_cons]; rw [gaps_len l m (by simpa using h)]
theorem gaps_getD : ∀ (l m : List Int) (i : Nat), i < l.length → l.length = m.length → (gaps l m).getD i 0 = gap (l.getD i 0) (m.getD i 0)
  | [], m, i, hi, h => by simp at hi
  | x :: l, [], i, hi, h => by simp at h
  | x :: l, y :: m, 0, hi, h => by simp [gaps]
  | x :: l, y :: m, i + 1, hi, h => by
    have := gaps_getD l m i (by simpa using hi) (by simpa using h)
    simp only [gaps, List.getD_cons_succ, this]
theorem gaps_le (l m : List Int) (hl : ∀ x ∈ l, 0 ≤ x ∧ x ≤ 160000000) (hm : ∀ x ∈ m, 0 ≤ x ∧ x ≤ 160000000) : ∀ y ∈ gaps l m, 0 ≤ y ∧ y ≤ 160000000 := by
  induction l generalizing m with
  | nil => intro y hy; simp [gaps] at hy
  | cons x l ih =>
    cases m with
    | nil => intro y hy; simp [gaps] at hy
    | cons z m =>
      intro y hy
      simp only [gaps, List.mem_cons] at hy
      rcases hy with rfl | hy
      · exact gap_le (hl x (by simp)) (hm z (by simp))
      · exact ih m (fun a ha => hl a (by simp [ha])) (fun a ha => hm a (by simp [ha])) y hy
theorem gaps_drop : ∀ (l m : List Int) (i : Nat), (gaps l m).drop i = gaps (l.drop i) (m.drop i)
  | [], m, i => by simp [gaps]
  | x :: l, [], i => by cases i <;> simp [gaps]
  | x :: l, y :: m, 0 => by simp
  | x :: l, y :: m, i + 1 => by simpa [gaps] using gaps_drop l m i
theorem m_impl_differences (k : Nat) (hk : 2000000 ≤ k) (fu : List (Nat × Nat)) (z1 z2 : Bool) (x y : List Int) (hy : (y.length : Int) ≤ 1048576) (hxy : x.length = y.length) (bx : ∀ a ∈ x, 0 ≤ a ∧ a ≤ 160000000) (by_ : ∀ a ∈ y, 0 ≤ a ∧ a ≤ 160000000) : ∀ (n i : Nat) (o : List Int), i ≤ y.length → y.length - i < n → o.length = x.length → o.drop i = x.drop i →
    lp (k + 9) impl_differences [] fu 5 (n) (s_impl_differences_5 (y.length : Int) (i : Int) z1 o z2 y) = some [.arr true z1 (.ints .i64 (o.take i ++ gaps (x.drop i) (y.drop i))), .bool true]
  | 0, i, o, hi, hn, ho, hd => by omega
  | n + 1, i, o, hi, hn, ho, hd => by
    rw [l_impl_differences_5]
    by_cases h : i < y.length
    · have hd' := hd
      rw [drop_at (l := o) (by omega : i < o.length) 0, drop_at (l := x) (by omega : i < x.length) 0] at hd'
      simp only [List.cons.injEq] at hd'
      have b1 := bx _ (getD_mem (l := x) (by omega : i < x.length) 0)
      have b2 := by_ _ (getD_mem h 0)
      have e := m_impl_differences k hk fu z1 z2 x y hy hxy bx by_ n (i + 1) (o.set i (gap (x.getD i 0) (y.getD i 0))) (by omega) (by omega) (by simp [ho]) (by rw [List.drop_set_of_lt (by omega)]; exact hd'.2)
      rw [set_next o o i _ _ (by omega)] at e
      rw [drop_at (l := x) (by omega : i < x.length) 0, drop_at h 0]
      simp (disch := omega) only [bindS, nth0, nth1, nth2, nth3, bit, cell0, cell1, cell2, cell3, cell4, toInt_int, toBool_bool, toStr_str, nil_arr, r3_arr, r4_arr, ints_arr, bools_arr, strs_arr, nI, cond_true, cond_false, Bool.not_true, Bool.not_false, Bool.and_true, Bool.true_and, Bool.and_false, Bool.false_and, Bool.or_true, Bool.true_or, Bool.or_false, Bool.false_or, dTT, dFF, dT, dF, bigI, big0, nilApp, wrapI, wrapU, List.length_set, List.length_replicate, Int.toNat_natCast, castS, castS2, imax, imin, hd'.1, c_impl_absolute, gap_max, gaps]
      exact e
    · simp (disch := omega) only [bindS, nth0, nth1, nth2, nth3, bit, cell0, cell1, cell2, cell3, cell4, toInt_int, toBool_bool, toStr_str, nil_arr, r3_arr, r4_arr, ints_arr, bools_arr, strs_arr, nI, cond_true, cond_false, Bool.not_true, Bool.not_false, Bool.and_true, Bool.true_and, Bool.and_false, Bool.false_and, Bool.or_true, Bool.true_or, Bool.or_false, Bool.false_or, dTT, dFF, dT, dF, bigI, big0, nilApp, wrapI, wrapU, List.length_set, List.length_replicate, Int.toNat_natCast, castS, castS2, imax, imin]
      rw [List.drop_of_length_le (by omega), List.take_of_length_le (by omega)]
      simp [gaps]
def ask (r : Int) (l : List Cell) (m t b : List Int) (r' : Int) (l' : List Cell) (m' t' b' : List Int) : Bool := stOk r l m t b && (stOk r' l' m' t' b' && decide (r = r'))
theorem c_spec_l33Ask (k : Nat) (hk : 2000000 ≤ k) (a0 : Int) (a1z : Bool) (a1 : List (Int × Int × Int)) (a2z : Bool) (a2 : List Int) (a3z : Bool) (a3 : List Int) (a4z : Bool) (a4 : List Int) (b0 : Int) (b1z : Bool) (b1 : List (Int × Int × Int)) (b2z : Bool) (b2 : List Int) (b3z : Bool) (b3 : List Int) (b4z : Bool) (b4 : List Int) (h1 : (a1.length : Int) ≤ 1048576) (h2 : (a4.length : Int) ≤ 1048576) (h3 : (b1.length : Int) ≤ 1048576) (h4 : (b4.length : Int) ≤ 1048576) : go (k + 8) spec_l33Ask [(.agg [(.int .i64 (a0)), (.arr false (a1z) (.r3 (a1))), (.arr false (a2z) (.ints .i64 (a2))), (.arr false (a3z) (.ints .i64 (a3))), (.arr false (a4z) (.ints .i64 (a4)))]), (.agg [(.int .i64 (b0)), (.arr false (b1z) (.r3 (b1))), (.arr false (b2z) (.ints .i64 (b2))), (.arr false (b3z) (.ints .i64 (b3))), (.arr false (b4z) (.ints .i64 (b4)))])] = some [.bool (ask a0 a1 a2 a3 a4 b0 b1 b2 b3 b4)] := by
  rw [e_spec_l33Ask]
  simp (disch := omega) only [bindS, nth0, nth1, nth2, nth3, bit, cell0, cell1, cell2, cell3, cell4, toInt_int, toBool_bool, toStr_str, nil_arr, r3_arr, r4_arr, ints_arr, bools_arr, strs_arr, nI, cond_true, cond_false, Bool.not_true, Bool.not_false, Bool.and_true, Bool.true_and, Bool.and_false, Bool.false_and, Bool.or_true, Bool.true_or, Bool.or_false, Bool.false_or, dTT, dFF, dT, dF, bigI, big0, nilApp, wrapI, wrapU, List.length_set, List.length_replicate, Int.toNat_natCast, castS, castS2, imax, imin, c_spec_StateOk, cond_and']
  rfl
theorem ask_facts {r : Int} {l : List Cell} {m t b : List Int} {r' : Int} {l' : List Cell} {m' t' b' : List Int} (h : ask r l m t b r' l' m' t' b' = true) :
    StF r l m t b ∧ StF r' l' m' t' b' ∧ r = r' ∧ (prof l m).length = (prof l' m').length ∧ ((prof l m).length : Int) = 16 * r ∧ (∀ a ∈ prof l m, 0 ≤ a ∧ a ≤ 160000000) ∧ (∀ a ∈ prof l' m', 0 ≤ a ∧ a ≤ 160000000) ∧ 1 ≤ r ∧ r ≤ 8 := by
  simp only [ask, Bool.and_eq_true, decide_eq_true_eq] at h
  have F := stF.1 h.1; have G := stF.1 h.2.1
  have p1 := prof_len l m r 0 F.mesh F.ml
  have p2 := prof_len l' m' r' 0 G.mesh G.ml
  have := h.2.2
  exact ⟨F, G, h.2.2, by omega, by omega, prof_le l m F.lev (fun x hx => by have := (massOk_mem m t (by rw [F.ml, F.tl]) F.mt).1 x hx; omega), prof_le l' m' G.lev (fun x hx => by have := (massOk_mem m' t' (by rw [G.ml, G.tl]) G.mt).1 x hx; omega), F.rr.1, F.rr.2⟩
theorem c_impl_differences (k : Nat) (hk : 2000000 ≤ k) (a0 : Int) (a1z : Bool) (a1 : List (Int × Int × Int)) (a2z : Bool) (a2 : List Int) (a3z : Bool) (a3 : List Int) (a4z : Bool) (a4 : List Int) (b0 : Int) (b1z : Bool) (b1 : List (Int × Int × Int)) (b2z : Bool) (b2 : List Int) (b3z : Bool) (b3 : List Int) (b4z : Bool) (b4 : List Int) (h1 : (a1.length : Int) ≤ 1048576) (h2 : (a4.length : Int) ≤ 1048576) (h3 : (b1.length : Int) ≤ 1048576) (h4 : (b4.length : Int) ≤ 1048576) : go (k + 10) impl_differences [(.agg [(.int .i64 (a0)), (.arr false (a1z) (.r3 (a1))), (.arr false (a2z) (.ints .i64 (a2))), (.arr false (a3z) (.ints .i64 (a3))), (.arr false (a4z) (.ints .i64 (a4)))]), (.agg [(.int .i64 (b0)), (.arr false (b1z) (.r3 (b1))), (.arr false (b2z) (.ints .i64 (b2))), (.arr false (b3z) (.ints .i64 (b3))), (.arr false (b4z) (.ints .i64 (b4)))])] = some [.arr true (!ask a0 a1 a2 a3 a4 b0 b1 b2 b3 b4) (.ints .i64 (cond (ask a0 a1 a2 a3 a4 b0 b1 b2 b3 b4) (gaps (prof a1 a2) (prof b1 b2)) [])), .bool (ask a0 a1 a2 a3 a4 b0 b1 b2 b3 b4)] := by
  rw [e_impl_differences]
  simp (disch := omega) only [bindS, nth0, nth1, nth2, nth3, bit, cell0, cell1, cell2, cell3, cell4, toInt_int, toBool_bool, toStr_str, nil_arr, r3_arr, r4_arr, ints_arr, bools_arr, strs_arr, nI, cond_true, cond_false, Bool.not_true, Bool.not_false, Bool.and_true, Bool.true_and, Bool.and_false, Bool.false_and, Bool.or_true, Bool.true_or, Bool.or_false, Bool.false_or, dTT, dFF, dT, dF, bigI, big0, nilApp, wrapI, wrapU, List.length_set, List.length_replicate, Int.toNat_natCast, castS, castS2, imax, imin, c_impl_StateOk, c_impl_ProfileOf]
  cases g : ask a0 a1 a2 a3 a4 b0 b1 b2 b3 b4
  · unfold ask at g
    cases g1 : stOk a0 a1 a2 a3 a4
    · rfl
    cases g2 : stOk b0 b1 b2 b3 b4
    · rfl
    simp only [g1, g2, Bool.true_and, decide_eq_false_iff_not] at g
    simp (disch := omega) only [bindS, nth0, nth1, nth2, nth3, bit, cell0, cell1, cell2, cell3, cell4, toInt_int, toBool_bool, toStr_str, nil_arr, r3_arr, r4_arr, ints_arr, bools_arr, strs_arr, nI, cond_true, cond_false, Bool.not_true, Bool.not_false, Bool.and_true, Bool.true_and, Bool.and_false, Bool.false_and, Bool.or_true, Bool.true_or, Bool.or_false, Bool.false_or, dTT, dFF, dT, dF, bigI, big0, nilApp, wrapI, wrapU, List.length_set, List.length_replicate, Int.toNat_natCast, castS, castS2, imax, imin]
  · obtain ⟨F, G, e1, e2, e3, b1_, b2_, r1, r2⟩ := ask_facts g
    rw [stF.2 F, stF.2 G]
    have e := m_impl_differences k hk [] false false (prof a1 a2) (prof b1 b2) (by omega) e2 b1_ b2_ (k + 9) 0 (prof a1 a2) (by omega) (by omega) rfl rfl
    simp only [List.drop_zero, List.take_zero, List.nil_append] at e
    simp (disch := omega) only [bindS, nth0, nth1, nth2, nth3, bit, cell0, cell1, cell2, cell3, cell4, toInt_int, toBool_bool, toStr_str, nil_arr, r3_arr, r4_arr, ints_arr, bools_arr, strs_arr, nI, cond_true, cond_false, Bool.not_true, Bool.not_false, Bool.and_true, Bool.true_and, Bool.and_false, Bool.false_and, Bool.or_true, Bool.true_or, Bool.or_false, Bool.false_or, dTT, dFF, dT, dF, bigI, big0, nilApp, wrapI, wrapU, List.length_set, List.length_replicate, Int.toNat_natCast, castS, castS2, imax, imin]
    exact e
theorem c_impl_DistanceOf (k : Nat) (hk : 2000000 ≤ k) (a0 : Int) (a1z : Bool) (a1 : List (Int × Int × Int)) (a2z : Bool) (a2 : List Int) (a3z : Bool) (a3 : List Int) (a4z : Bool) (a4 : List Int) (b0 : Int) (b1z : Bool) (b1 : List (Int × Int × Int)) (b2z : Bool) (b2 : List Int) (b3z : Bool) (b3 : List Int) (b4z : Bool) (b4 : List Int) (h1 : (a1.length : Int) ≤ 1048576) (h2 : (a4.length : Int) ≤ 1048576) (h3 : (b1.length : Int) ≤ 1048576) (h4 : (b4.length : Int) ≤ 1048576) : go (k + 11) impl_DistanceOf [(.agg [(.int .i64 (a0)), (.arr false (a1z) (.r3 (a1))), (.arr false (a2z) (.ints .i64 (a2))), (.arr false (a3z) (.ints .i64 (a3))), (.arr false (a4z) (.ints .i64 (a4)))]), (.agg [(.int .i64 (b0)), (.arr false (b1z) (.r3 (b1))), (.arr false (b2z) (.ints .i64 (b2))), (.arr false (b3z) (.ints .i64 (b3))), (.arr false (b4z) (.ints .i64 (b4)))])] = some [.int .i64 (cond (ask a0 a1 a2 a3 a4 b0 b1 b2 b3 b4) (isum (gaps (prof a1 a2) (prof b1 b2))) (-1))] := by
  rw [e_impl_DistanceOf]
  simp (disch := omega) only [bindS, nth0, nth1, nth2, nth3, bit, cell0, cell1, cell2, cell3, cell4, toInt_int, toBool_bool, toStr_str, nil_arr, r3_arr, r4_arr, ints_arr, bools_arr, strs_arr, nI, cond_true, cond_false, Bool.not_true, Bool.not_false, Bool.and_true, Bool.true_and, Bool.and_false, Bool.false_and, Bool.or_true, Bool.true_or, Bool.or_false, Bool.false_or, dTT, dFF, dT, dF, bigI, big0, nilApp, wrapI, wrapU, List.length_set, List.length_replicate, Int.toNat_natCast, castS, castS2, imax, imin, c_impl_differences]
  cases g : ask a0 a1 a2 a3 a4 b0 b1 b2 b3 b4
  · rfl
  · obtain ⟨F, G, e1, e2, e3, b1_, b2_, r1, r2⟩ := ask_facts g
    simp only [Bool.not_true, cond_false, cond_true]
    rw [c_impl_sum _ (by omega) _ _ (by rw [gaps_len _ _ e2]; omega) (fun x hx => by have := gaps_le _ _ b1_ b2_ x hx; omega)]
    simp (disch := omega) only [bindS, nth0, nth1, nth2, nth3, bit, cell0, cell1, cell2, cell3, cell4, toInt_int, toBool_bool, toStr_str, nil_arr, r3_arr, r4_arr, ints_arr, bools_arr, strs_arr, nI, cond_true, cond_false, Bool.not_true, Bool.not_false, Bool.and_true, Bool.true_and, Bool.and_false, Bool.false_and, Bool.or_true, Bool.true_or, Bool.or_false, Bool.false_or, dTT, dFF, dT, dF, bigI, big0, nilApp, wrapI, wrapU, List.length_set, List.length_replicate, Int.toNat_natCast, castS, castS2, imax, imin]
theorem m_spec_DistanceOf (k : Nat) (hk : 2000000 ≤ k) (fu : List (Nat × Nat)) (z1 z2 : Bool) (x y : List Int) (hy : (x.length : Int) ≤ 1048576) (hxy : x.length = y.length) (bx : ∀ a ∈ x, 0 ≤ a ∧ a ≤ 160000000) (by_ : ∀ a ∈ y, 0 ≤ a ∧ a ≤ 160000000) : ∀ (n i : Nat) (s : Int), i ≤ x.length → x.length - i < n → 0 ≤ s → s + isum (gaps (x.drop i) (y.drop i)) = isum (gaps x y) →
    lp (k + 8) spec_DistanceOf [] fu 7 (n) (s_spec_DistanceOf_7 s (i : Int) z1 x z2 y) = some [.int .i64 (isum (gaps x y))]
  | 0, i, s, hi, hn, h0, hs => by omega
  | n + 1, i, s, hi, hn, h0, hs => by
    rw [l_spec_DistanceOf_7]
    have T := isum_le _ (gaps_le x y bx by_)
    have T2 := gaps_len x y hxy
    by_cases h : i < x.length
    · rw [drop_at (l := x) h 0, drop_at (l := y) (by omega : i < y.length) 0] at hs
      simp only [gaps, isum] at hs
      have b1 := bx _ (getD_mem h 0)
      have b2 := by_ _ (getD_mem (l := y) (by omega : i < y.length) 0)
      have b3 := gap_le b1 b2
      have b4 := (isum_le _ (gaps_le (x.drop (i + 1)) (y.drop (i + 1)) (fun a ha => bx a (List.mem_of_mem_drop ha)) (fun a ha => by_ a (List.mem_of_mem_drop ha)))).1
      have e := m_spec_DistanceOf k hk fu z1 z2 x y hy hxy bx by_ n (i + 1) (s + gap (x.getD i 0) (y.getD i 0)) (by omega) (by omega) (by omega) (by omega)
      simp (disch := omega) only [bindS, nth0, nth1, nth2, nth3, bit, cell0, cell1, cell2, cell3, cell4, toInt_int, toBool_bool, toStr_str, nil_arr, r3_arr, r4_arr, ints_arr, bools_arr, strs_arr, nI, cond_true, cond_false, Bool.not_true, Bool.not_false, Bool.and_true, Bool.true_and, Bool.and_false, Bool.false_and, Bool.or_true, Bool.true_or, Bool.or_false, Bool.false_or, dTT, dFF, dT, dF, bigI, big0, nilApp, wrapI, wrapU, List.length_set, List.length_replicate, Int.toNat_natCast, castS, castS2, imax, imin, c_spec_l09Gap]
      exact e
    · rw [List.drop_of_length_le (l := x) (by omega)] at hs
      simp only [gaps, isum] at hs
      simp (disch := omega) only [bindS, nth0, nth1, nth2, nth3, bit, cell0, cell1, cell2, cell3, cell4, toInt_int, toBool_bool, toStr_str, nil_arr, r3_arr, r4_arr, ints_arr, bools_arr, strs_arr, nI, cond_true, cond_false, Bool.not_true, Bool.not_false, Bool.and_true, Bool.true_and, Bool.and_false, Bool.false_and, Bool.or_true, Bool.true_or, Bool.or_false, Bool.false_or, dTT, dFF, dT, dF, bigI, big0, nilApp, wrapI, wrapU, List.length_set, List.length_replicate, Int.toNat_natCast, castS, castS2, imax, imin]
      rw [show s = isum (gaps x y) by omega]
theorem c_spec_DistanceOf (k : Nat) (hk : 2000000 ≤ k) (a0 : Int) (a1z : Bool) (a1 : List (Int × Int × Int)) (a2z : Bool) (a2 : List Int) (a3z : Bool) (a3 : List Int) (a4z : Bool) (a4 : List Int) (b0 : Int) (b1z : Bool) (b1 : List (Int × Int × Int)) (b2z : Bool) (b2 : List Int) (b3z : Bool) (b3 : List Int) (b4z : Bool) (b4 : List Int) (h1 : (a1.length : Int) ≤ 1048576) (h2 : (a4.length : Int) ≤ 1048576) (h3 : (b1.length : Int) ≤ 1048576) (h4 : (b4.length : Int) ≤ 1048576) : go (k + 9) spec_DistanceOf [(.agg [(.int .i64 (a0)), (.arr false (a1z) (.r3 (a1))), (.arr false (a2z) (.ints .i64 (a2))), (.arr false (a3z) (.ints .i64 (a3))), (.arr false (a4z) (.ints .i64 (a4)))]), (.agg [(.int .i64 (b0)), (.arr false (b1z) (.r3 (b1))), (.arr false (b2z) (.ints .i64 (b2))), (.arr false (b3z) (.ints .i64 (b3))), (.arr false (b4z) (.ints .i64 (b4)))])] = some [.int .i64 (cond (ask a0 a1 a2 a3 a4 b0 b1 b2 b3 b4) (isum (gaps (prof a1 a2) (prof b1 b2))) (-1))] := by
  rw [e_spec_DistanceOf]
  simp (disch := omega) only [bindS, nth0, nth1, nth2, nth3, bit, cell0, cell1, cell2, cell3, cell4, toInt_int, toBool_bool, toStr_str, nil_arr, r3_arr, r4_arr, ints_arr, bools_arr, strs_arr, nI, cond_true, cond_false, Bool.not_true, Bool.not_false, Bool.and_true, Bool.true_and, Bool.and_false, Bool.false_and, Bool.or_true, Bool.true_or, Bool.or_false, Bool.false_or, dTT, dFF, dT, dF, bigI, big0, nilApp, wrapI, wrapU, List.length_set, List.length_replicate, Int.toNat_natCast, castS, castS2, imax, imin, c_spec_l33Ask]
  cases g : ask a0 a1 a2 a3 a4 b0 b1 b2 b3 b4
  · rfl
  · obtain ⟨F, G, e1, e2, e3, b1_, b2_, r1, r2⟩ := ask_facts g
    simp only [Bool.not_true, cond_false]
    rw [c_spec_l33Profile _ (by omega) _ _ _ _ _ _ _ _ _ F, c_spec_l33Profile _ (by omega) _ _ _ _ _ _ _ _ _ G]
    simp (disch := omega) only [bindS, nth0, nth1, nth2, nth3, bit, cell0, cell1, cell2, cell3, cell4, toInt_int, toBool_bool, toStr_str, nil_arr, r3_arr, r4_arr, ints_arr, bools_arr, strs_arr, nI, cond_true, cond_false, Bool.not_true, Bool.not_false, Bool.and_true, Bool.true_and, Bool.and_false, Bool.false_and, Bool.or_true, Bool.true_or, Bool.or_false, Bool.false_or, dTT, dFF, dT, dF, bigI, big0, nilApp, wrapI, wrapU, List.length_set, List.length_replicate, Int.toNat_natCast, castS, castS2, imax, imin]
    exact m_spec_DistanceOf k hk [] false false (prof a1 a2) (prof b1 b2) (by omega) e2 b1_ b2_ _ 0 0 (by omega) (by omega) (by omega) (by simp)
def peakGo (d : List Int) : Nat → Nat → Nat → Nat
  | 0, _, best => best
  | n + 1, i, best => peakGo d n (i + 1) (if d.getD best 0 < d.getD i 0 then i else best)
theorem m_impl_PeakOf (k : Nat) (hk : 2000000 ≤ k) (fu : List (Nat × Nat)) (z : Bool) (d : List Int) (hd : (d.length : Int) ≤ 1048576) : ∀ (n i best : Nat), i ≤ d.length → d.length - i < n → best < d.length →
    ∃ v, lp k impl_PeakOf [] fu 3 (n) (s_impl_PeakOf_3 (best : Int) (d.length : Int) (i : Int) z d) = some [.int .i64 v, .int .i64 (peakGo d (d.length - i) i best : Nat)]
  | 0, i, best, hi, hn, hb => by omega
  | n + 1, i, best, hi, hn, hb => by
    rw [l_impl_PeakOf_3]
    by_cases h : i < d.length
    · rw [show d.length - i = (d.length - (i + 1)) + 1 by omega, peakGo]
      by_cases g : d.getD best 0 < d.getD i 0
      · obtain ⟨v, e⟩ := m_impl_PeakOf k hk fu z d hd n (i + 1) i (by omega) (by omega) h
        rw [if_pos g]
        simp (disch := omega) only [bindS, nth0, nth1, nth2, nth3, bit, cell0, cell1, cell2, cell3, cell4, toInt_int, toBool_bool, toStr_str, nil_arr, r3_arr, r4_arr, ints_arr, bools_arr, strs_arr, nI, cond_true, cond_false, Bool.not_true, Bool.not_false, Bool.and_true, Bool.true_and, Bool.and_false, Bool.false_and, Bool.or_true, Bool.true_or, Bool.or_false, Bool.false_or, dTT, dFF, dT, dF, bigI, big0, nilApp, wrapI, wrapU, List.length_set, List.length_replicate, Int.toNat_natCast, castS, castS2, imax, imin]
        exact ⟨v, e⟩
      · obtain ⟨v, e⟩ := m_impl_PeakOf k hk fu z d hd n (i + 1) best (by omega) (by omega) hb
        rw [if_neg g]
        simp (disch := omega) only [bindS, nth0, nth1, nth2, nth3, bit, cell0, cell1, cell2, cell3, cell4, toInt_int, toBool_bool, toStr_str, nil_arr, r3_arr, r4_arr, ints_arr, bools_arr, strs_arr, nI, cond_true, cond_false, Bool.not_true, Bool.not_false, Bool.and_true, Bool.true_and, Bool.and_false, Bool.false_and, Bool.or_true, Bool.true_or, Bool.or_false, Bool.false_or, dTT, dFF, dT, dF, bigI, big0, nilApp, wrapI, wrapU, List.length_set, List.length_replicate, Int.toNat_natCast, castS, castS2, imax, imin]
        exact ⟨v, e⟩
    · simp (disch := omega) only [bindS, nth0, nth1, nth2, nth3, bit, cell0, cell1, cell2, cell3, cell4, toInt_int, toBool_bool, toStr_str, nil_arr, r3_arr, r4_arr, ints_arr, bools_arr, strs_arr, nI, cond_true, cond_false, Bool.not_true, Bool.not_false, Bool.and_true, Bool.true_and, Bool.and_false, Bool.false_and, Bool.or_true, Bool.true_or, Bool.or_false, Bool.false_or, dTT, dFF, dT, dF, bigI, big0, nilApp, wrapI, wrapU, List.length_set, List.length_replicate, Int.toNat_natCast, castS, castS2, imax, imin]
      rw [show d.length - i = 0 by omega]
      exact ⟨_, rfl⟩
theorem c_impl_PeakOf1 (k : Nat) (hk : 2000000 ≤ k) (az : Bool) (a : List Int) (hd : (a.length : Int) ≤ 1048576) (h0 : 0 < a.length) : ∃ v, go (k + 1) impl_PeakOf [(.arr false (az) (.ints .i64 (a)))] = some [.int .i64 v, .int .i64 (peakGo a (a.length - 1) 1 0 : Nat)] := by
  rw [e_impl_PeakOf]
  obtain ⟨m, hm⟩ : ∃ m, k + 0 = m + 1 := ⟨k + 0 - 1, by omega⟩
  obtain ⟨v, e⟩ := m_impl_PeakOf k hk [] az a hd m 1 0 (by omega) (by omega) h0
  refine ⟨v, ?_⟩
  rw [← e]
  have e0 := l_impl_PeakOf_3 (k + 0) m [] (-1) (nI a.length) 0 az a
  rw [← hm] at e0
  refine Eq.trans e0 ?_
  simp (disch := omega) only [bindS, nth0, nth1, nth2, nth3, bit, cell0, cell1, cell2, cell3, cell4, toInt_int, toBool_bool, toStr_str, nil_arr, r3_arr, r4_arr, ints_arr, bools_arr, strs_arr, nI, cond_true, cond_false, Bool.not_true, Bool.not_false, Bool.and_true, Bool.true_and, Bool.and_false, Bool.false_and, Bool.or_true, Bool.true_or, Bool.or_false, Bool.false_or, dTT, dFF, dT, dF, bigI, big0, nilApp, wrapI, wrapU, List.length_set, List.length_replicate, Int.toNat_natCast, castS, castS2, imax, imin]
  rfl
theorem m_spec_Worst (k : Nat) (hk : 2000000 ≤ k) (fu : List (Nat × Nat)) (z1 z2 : Bool) (x y : List Int) (hy : (x.length : Int) ≤ 1048576) (hxy : x.length = y.length) (bx : ∀ a ∈ x, 0 ≤ a ∧ a ≤ 160000000) (by_ : ∀ a ∈ y, 0 ≤ a ∧ a ≤ 160000000) : ∀ (n i best : Nat), i ≤ x.length → x.length - i < n → best < x.length →
    lp (k + 8) spec_WorstPosition [] fu 7 (n) (s_spec_WorstPosition_7 (best : Int) (i : Int) z1 x z2 y) = some [.int .i64 (peakGo (gaps x y) (x.length - i) i best : Nat)]
  | 0, i, best, hi, hn, hb => by omega
  | n + 1, i, best, hi, hn, hb => by
    rw [l_spec_WorstPosition_7]
    by_cases h : i < x.length
    · rw [show x.length - i = (x.length - (i + 1)) + 1 by omega, peakGo]
      have b1 := bx _ (getD_mem h 0)
      have b2 := by_ _ (getD_mem (l := y) (by omega : i < y.length) 0)
      have b3 := bx _ (getD_mem hb 0)
      have b4 := by_ _ (getD_mem (l := y) (by omega : best < y.length) 0)
      rw [gaps_getD x y best hb hxy, gaps_getD x y i h hxy]
      by_cases g : gap (x.getD best 0) (y.getD best 0) < gap (x.getD i 0) (y.getD i 0)
      · have e := m_spec_Worst k hk fu z1 z2 x y hy hxy bx by_ n (i + 1) i (by omega) (by omega) h
        rw [if_pos g]
        simp (disch := omega) only [bindS, nth0, nth1, nth2, nth3, bit, cell0, cell1, cell2, cell3, cell4, toInt_int, toBool_bool, toStr_str, nil_arr, r3_arr, r4_arr, ints_arr, bools_arr, strs_arr, nI, cond_true, cond_false, Bool.not_true, Bool.not_false, Bool.and_true, Bool.true_and, Bool.and_false, Bool.false_and, Bool.or_true, Bool.true_or, Bool.or_false, Bool.false_or, dTT, dFF, dT, dF, bigI, big0, nilApp, wrapI, wrapU, List.length_set, List.length_replicate, Int.toNat_natCast, castS, castS2, imax, imin, c_spec_l09Gap]
        exact e
      · have e := m_spec_Worst k hk fu z1 z2 x y hy hxy bx by_ n (i + 1) best (by omega) (by omega) hb
        rw [if_neg g]
        simp (disch := omega) only [bindS, nth0, nth1, nth2, nth3, bit, cell0, cell1, cell2, cell3, cell4, toInt_int, toBool_bool, toStr_str, nil_arr, r3_arr, r4_arr, ints_arr, bools_arr, strs_arr, nI, cond_true, cond_false, Bool.not_true, Bool.not_false, Bool.and_true, Bool.true_and, Bool.and_false, Bool.false_and, Bool.or_true, Bool.true_or, Bool.or_false, Bool.false_or, dTT, dFF, dT, dF, bigI, big0, nilApp, wrapI, wrapU, List.length_set, List.length_replicate, Int.toNat_natCast, castS, castS2, imax, imin, c_spec_l09Gap]
        exact e
    · simp (disch := omega) only [bindS, nth0, nth1, nth2, nth3, bit, cell0, cell1, cell2, cell3, cell4, toInt_int, toBool_bool, toStr_str, nil_arr, r3_arr, r4_arr, ints_arr, bools_arr, strs_arr, nI, cond_true, cond_false, Bool.not_true, Bool.not_false, Bool.and_true, Bool.true_and, Bool.and_false, Bool.false_and, Bool.or_true, Bool.true_or, Bool.or_false, Bool.false_or, dTT, dFF, dT, dF, bigI, big0, nilApp, wrapI, wrapU, List.length_set, List.length_replicate, Int.toNat_natCast, castS, castS2, imax, imin]
      rw [show x.length - i = 0 by omega]; rfl
theorem c_impl_WorstPosition (k : Nat) (hk : 2000000 ≤ k) (a0 : Int) (a1z : Bool) (a1 : List (Int × Int × Int)) (a2z : Bool) (a2 : List Int) (a3z : Bool) (a3 : List Int) (a4z : Bool) (a4 : List Int) (b0 : Int) (b1z : Bool) (b1 : List (Int × Int × Int)) (b2z : Bool) (b2 : List Int) (b3z : Bool) (b3 : List Int) (b4z : Bool) (b4 : List Int) (h1 : (a1.length : Int) ≤ 1048576) (h2 : (a4.length : Int) ≤ 1048576) (h3 : (b1.length : Int) ≤ 1048576) (h4 : (b4.length : Int) ≤ 1048576) : go (k + 11) impl_WorstPosition [(.agg [(.int .i64 (a0)), (.arr false (a1z) (.r3 (a1))), (.arr false (a2z) (.ints .i64 (a2))), (.arr false (a3z) (.ints .i64 (a3))), (.arr false (a4z) (.ints .i64 (a4)))]), (.agg [(.int .i64 (b0)), (.arr false (b1z) (.r3 (b1))), (.arr false (b2z) (.ints .i64 (b2))), (.arr false (b3z) (.ints .i64 (b3))), (.arr false (b4z) (.ints .i64 (b4)))])] = some [.int .i64 (cond (ask a0 a1 a2 a3 a4 b0 b1 b2 b3 b4) ((peakGo (gaps (prof a1 a2) (prof b1 b2)) ((prof a1 a2).length - 1) 1 0 : Nat) : Int) (-1))] := by
  rw [e_impl_WorstPosition]
  simp (disch := omega) only [bindS, nth0, nth1, nth2, nth3, bit, cell0, cell1, cell2, cell3, cell4, toInt_int, toBool_bool, toStr_str, nil_arr, r3_arr, r4_arr, ints_arr, bools_arr, strs_arr, nI, cond_true, cond_false, Bool.not_true, Bool.not_false, Bool.and_true, Bool.true_and, Bool.and_false, Bool.false_and, Bool.or_true, Bool.true_or, Bool.or_false, Bool.false_or, dTT, dFF, dT, dF, bigI, big0, nilApp, wrapI, wrapU, List.length_set, List.length_replicate, Int.toNat_natCast, castS, castS2, imax, imin, c_impl_differences]
  cases g : ask a0 a1 a2 a3 a4 b0 b1 b2 b3 b4
  · obtain ⟨m, hm⟩ : ∃ m, k = m + 1 := ⟨k - 1, by omega⟩
    simp only [cond_false, Bool.not_false]
    rw [show k + 10 = (k + 10 - 1) + 1 by omega, e_impl_PeakOf]
    obtain ⟨q, hq⟩ : ∃ q, k + 10 - 1 = q + 1 := ⟨k + 10 - 2, by omega⟩
    rw [hq, l_impl_PeakOf_3]
    simp (disch := omega) only [bindS, nth0, nth1, nth2, nth3, bit, cell0, cell1, cell2, cell3, cell4, toInt_int, toBool_bool, toStr_str, nil_arr, r3_arr, r4_arr, ints_arr, bools_arr, strs_arr, nI, cond_true, cond_false, Bool.not_true, Bool.not_false, Bool.and_true, Bool.true_and, Bool.and_false, Bool.false_and, Bool.or_true, Bool.true_or, Bool.or_false, Bool.false_or, dTT, dFF, dT, dF, bigI, big0, nilApp, wrapI, wrapU, List.length_set, List.length_replicate, Int.toNat_natCast, castS, castS2, imax, imin, List.length_nil]
  · obtain ⟨F, G, e1, e2, e3, b1_, b2_, r1, r2⟩ := ask_facts g
    have L := gaps_len _ _ e2
    obtain ⟨v, e⟩ := c_impl_PeakOf1 (k + 10 - 1) (by omega) false (gaps (prof a1 a2) (prof b1 b2)) (by omega) (by omega)
    rw [show k + 10 - 1 + 1 = k + 10 by omega] at e
    simp only [cond_true, Bool.not_true]
    rw [e, L]
    simp (disch := omega) only [bindS, nth0, nth1, nth2, nth3, bit, cell0, cell1, cell2, cell3, cell4, toInt_int, toBool_bool, toStr_str, nil_arr, r3_arr, r4_arr, ints_arr, bools_arr, strs_arr, nI, cond_true, cond_false, Bool.not_true, Bool.not_false, Bool.and_true, Bool.true_and, Bool.and_false, Bool.false_and, Bool.or_true, Bool.true_or, Bool.or_false, Bool.false_or, dTT, dFF, dT, dF, bigI, big0, nilApp, wrapI, wrapU, List.length_set, List.length_replicate, Int.toNat_natCast, castS, castS2, imax, imin]
theorem c_spec_WorstPosition (k : Nat) (hk : 2000000 ≤ k) (a0 : Int) (a1z : Bool) (a1 : List (Int × Int × Int)) (a2z : Bool) (a2 : List Int) (a3z : Bool) (a3 : List Int) (a4z : Bool) (a4 : List Int) (b0 : Int) (b1z : Bool) (b1 : List (Int × Int × Int)) (b2z : Bool) (b2 : List Int) (b3z : Bool) (b3 : List Int) (b4z : Bool) (b4 : List Int) (h1 : (a1.length : Int) ≤ 1048576) (h2 : (a4.length : Int) ≤ 1048576) (h3 : (b1.length : Int) ≤ 1048576) (h4 : (b4.length : Int) ≤ 1048576) : go (k + 9) spec_WorstPosition [(.agg [(.int .i64 (a0)), (.arr false (a1z) (.r3 (a1))), (.arr false (a2z) (.ints .i64 (a2))), (.arr false (a3z) (.ints .i64 (a3))), (.arr false (a4z) (.ints .i64 (a4)))]), (.agg [(.int .i64 (b0)), (.arr false (b1z) (.r3 (b1))), (.arr false (b2z) (.ints .i64 (b2))), (.arr false (b3z) (.ints .i64 (b3))), (.arr false (b4z) (.ints .i64 (b4)))])] = some [.int .i64 (cond (ask a0 a1 a2 a3 a4 b0 b1 b2 b3 b4) ((peakGo (gaps (prof a1 a2) (prof b1 b2)) ((prof a1 a2).length - 1) 1 0 : Nat) : Int) (-1))] := by
  rw [e_spec_WorstPosition]
  simp (disch := omega) only [bindS, nth0, nth1, nth2, nth3, bit, cell0, cell1, cell2, cell3, cell4, toInt_int, toBool_bool, toStr_str, nil_arr, r3_arr, r4_arr, ints_arr, bools_arr, strs_arr, nI, cond_true, cond_false, Bool.not_true, Bool.not_false, Bool.and_true, Bool.true_and, Bool.and_false, Bool.false_and, Bool.or_true, Bool.true_or, Bool.or_false, Bool.false_or, dTT, dFF, dT, dF, bigI, big0, nilApp, wrapI, wrapU, List.length_set, List.length_replicate, Int.toNat_natCast, castS, castS2, imax, imin, c_spec_l33Ask]
  cases g : ask a0 a1 a2 a3 a4 b0 b1 b2 b3 b4
  · rfl
  · obtain ⟨F, G, e1, e2, e3, b1_, b2_, r1, r2⟩ := ask_facts g
    simp only [Bool.not_true, cond_false]
    rw [c_spec_l33Profile _ (by omega) _ _ _ _ _ _ _ _ _ F, c_spec_l33Profile _ (by omega) _ _ _ _ _ _ _ _ _ G]
    simp (disch := omega) only [bindS, nth0, nth1, nth2, nth3, bit, cell0, cell1, cell2, cell3, cell4, toInt_int, toBool_bool, toStr_str, nil_arr, r3_arr, r4_arr, ints_arr, bools_arr, strs_arr, nI, cond_true, cond_false, Bool.not_true, Bool.not_false, Bool.and_true, Bool.true_and, Bool.and_false, Bool.false_and, Bool.or_true, Bool.true_or, Bool.or_false, Bool.false_or, dTT, dFF, dT, dF, bigI, big0, nilApp, wrapI, wrapU, List.length_set, List.length_replicate, Int.toNat_natCast, castS, castS2, imax, imin]
    have e := m_spec_Worst k hk [] false false (prof a1 a2) (prof b1 b2) (by omega) e2 b1_ b2_ (k + 8) 0 0 (by omega) (by omega) (by omega)
    rw [show (prof a1 a2).length - 0 = ((prof a1 a2).length - 1) + 1 by omega, peakGo] at e
    simp only [ite_self] at e
    exact e
end Go.Proofs.Ytfnhcnbpkfhmmaa
