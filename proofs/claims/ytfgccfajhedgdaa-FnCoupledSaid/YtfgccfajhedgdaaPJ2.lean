/- Channels cut: both readings agree. -/
import Derived.Test.YtfgccfajhedgdaaPJ
namespace Go.Proofs.Ytfgccfajhedgdaa
open Go.Ev
set_option linter.unusedVariables false
set_option linter.unusedSimpArgs false
set_option maxRecDepth 20000
def cutAt (d : Int) : List Cell → Nat
  | [] => 0
  | x :: l => if x.1 < d then cutAt d l + 1 else 0
theorem cutAt_le (d : Int) : ∀ l : List Cell, cutAt d l ≤ l.length
  | [] => Nat.le_refl _
  | x :: l => by
    have := cutAt_le d l
    simp only [cutAt]
    split
    · simp only [List.length_cons]; omega
    · omega
theorem cutAt_drop {d : Int} {l : List Cell} {i : Nat} (h : i < l.length) : cutAt d (l.drop i) = if (l.getD i zz3).1 < d then cutAt d (l.drop (i + 1)) + 1 else 0 := by
  rw [drop_at h zz3]; rfl
theorem shiftR_neg (d : Int) (x : Cell) (l : List Cell) : shiftR (-d) (x :: l) = (x.1 - d, x.2.1, x.2.2) :: shiftR (-d) l := rfl
theorem takeDrop {α : Type} (l : List α) (i : Nat) : List.take (l.length - i) (List.drop i l) = l.drop i := by
  rw [List.take_of_length_le]; simp
theorem m_spec_cut7 (k : Nat) (hk : 2000000 ≤ k) (fu : List (Nat × Nat)) (z1 z2 z3 z4 y1 y2 y3 y4 q1 q2 q3 q4 : Bool) (l : List Cell) (m t b : List Int) (g1 : List Cell) (g2 g3 g4 : List Int) (e1 : List Cell) (e2 e3 e4 : List Int) (r x1 x2 d r' : Int) (la : List Cell) (ma ta ba mb tb bb : List Int)
    (hm : m.length = l.length) (hL : (l.length : Int) ≤ 1000) (h0 : 0 ≤ d) (h8 : d ≤ 8) (hr : ∀ i, i < l.length → 0 ≤ (l.getD i zz3).1 ∧ (l.getD i zz3).1 ≤ 8) : ∀ (n i : Nat) (acc : List Cell), i ≤ l.length → l.length - i < n → (acc.length : Int) ≤ i →
    lp k spec_l31Cut [] fu 7 (n) (s_spec_l31Cut_7 d (i : Int) z1 l z2 m z3 t z4 b r y1 g1 y2 g2 y3 g3 y4 g4 x1 q1 e1 q2 e2 q3 e3 q4 e4 x2 false la false ma false ta false ba d (decide (acc.length = 0)) acc false mb false tb false bb r') =
      some [.agg [.int .i64 (d), .arr true (false) (.r3 (la)), .arr true (false) (.ints .i64 (ma)), .arr true (false) (.ints .i64 (ta)), .arr true (false) (.ints .i64 (ba))], .agg [.int .i64 (r'), .arr true (decide ((acc ++ shiftR (-d) (l.drop i)).length = 0)) (.r3 (acc ++ shiftR (-d) (l.drop i))), .arr true (false) (.ints .i64 (mb)), .arr true (false) (.ints .i64 (tb)), .arr true (false) (.ints .i64 (bb))]]
  | 0, i, acc, hi, hn, hl => by omega
  | n + 1, i, acc, hi, hn, hl => by
    rw [l_spec_l31Cut_7]
    by_cases h : i < l.length
    · have e := m_spec_cut7 k hk fu z1 z2 z3 z4 y1 y2 y3 y4 q1 q2 q3 q4 l m t b g1 g2 g3 g4 e1 e2 e3 e4 r x1 x2 d r' la ma ta ba mb tb bb hm hL h0 h8 hr n (i + 1) (acc ++ [((l.getD i zz3).1 - d, (l.getD i zz3).2.1, (l.getD i zz3).2.2)]) (by omega) (by omega) (by rw [List.length_append]; simp only [List.length_cons, List.length_nil]; omega)
      have hx := hr i h
      rw [drop_at h zz3, shiftR_neg]
      rw [app_one] at e
      have z : decide ((acc ++ [((l.getD i zz3).1 - d, (l.getD i zz3).2.1, (l.getD i zz3).2.2)]).length = 0) = false := decide_eq_false (by simp)
      rw [z] at e
      simp (disch := omega) only [bindS, nth0, nth1, nth2, nth3, bit, cell0, cell1, cell2, cell3, cell4, cell5, cell6, cell7, cell8, cell9, cell10, cell11, cell12, cell13, cell14, cell15, cell16, cell17, cell18, cell19, cell20, cell21, cell22, cell23, toInt_int, toBool_bool, toStr_str, nil_arr, r3_arr, r4_arr, ints_arr, bools_arr, strs_arr, nI, condT, condF, Bool.not_true, Bool.not_false, Bool.and_true, Bool.true_and, Bool.and_false, Bool.false_and, Bool.or_true, Bool.true_or, Bool.or_false, Bool.false_or, beq_self_eq_true, dTT, dFF, dT, dF, bigI, big0, nilApp, wrapI, wrapU, List.length_set, List.length_replicate, Int.toNat_natCast, castS, castS2, imax, imin, big0, show ((acc ++ [((l.getD i zz3).1 - d, (l.getD i zz3).2.1, (l.getD i zz3).2.2)]).length) = acc.length + 1 from by simp, e]
    · rw [List.drop_of_length_le (by omega : l.length ≤ i), shiftR_nil, List.append_nil]
      simp (disch := omega) only [bindS, nth0, nth1, nth2, nth3, bit, cell0, cell1, cell2, cell3, cell4, cell5, cell6, cell7, cell8, cell9, cell10, cell11, cell12, cell13, cell14, cell15, cell16, cell17, cell18, cell19, cell20, cell21, cell22, cell23, toInt_int, toBool_bool, toStr_str, nil_arr, r3_arr, r4_arr, ints_arr, bools_arr, strs_arr, nI, condT, condF, Bool.not_true, Bool.not_false, Bool.and_true, Bool.true_and, Bool.and_false, Bool.false_and, Bool.or_true, Bool.true_or, Bool.or_false, Bool.false_or, beq_self_eq_true, dTT, dFF, dT, dF, bigI, big0, nilApp, wrapI, wrapU, List.length_set, List.length_replicate, Int.toNat_natCast, castS, castS2, imax, imin]
theorem m_spec_cut2 (k : Nat) (hk : 2000000 ≤ k) (fu : List (Nat × Nat)) (z1 z2 z3 z4 : Bool) (l : List Cell) (m t b : List Int) (r : Int) (F : StF r l m t b) (d : Nat) (h0 : 1 ≤ d) (h8 : (d : Int) + 1 ≤ r) : ∀ (n i : Nat), i ≤ l.length → l.length - i < n →
    lp k spec_l31Cut [] fu 2 (n) (s_spec_l31Cut_2 (d : Int) (i : Int) z1 l z2 m z3 t z4 b r true [] true [] true [] true [] 0 true [] true [] true [] true [] 0) =
      some [.agg [.int .i64 (d), .arr true (false) (.r3 (l.take (i + cutAt d (l.drop i)))), .arr true (false) (.ints .i64 (m.take (i + cutAt d (l.drop i)))), .arr true (false) (.ints .i64 (t.take (i + cutAt d (l.drop i)))), .arr true (false) (.ints .i64 (b.take d))], .agg [.int .i64 (r - d), .arr true (decide ((shiftR (-(d : Int)) (l.drop (i + cutAt d (l.drop i)))).length = 0)) (.r3 (shiftR (-(d : Int)) (l.drop (i + cutAt d (l.drop i))))), .arr true (false) (.ints .i64 (m.drop (i + cutAt d (l.drop i)))), .arr true (false) (.ints .i64 (t.drop (i + cutAt d (l.drop i)))), .arr true (false) (.ints .i64 (b.drop d))]]
  | 0, i, hi, hn => by omega
  | n + 1, i, hi, hn => by
    rw [l_spec_l31Cut_2]
    have := F.len; have hm := F.ml; have ht := F.tl; have hb := F.bl; have := F.rr
    have tk : ∀ {α : Type} (x : List α) (j : Nat), (List.take j x).length ≤ x.length := fun x j => by rw [List.length_take]; omega
    have dr : ∀ {α : Type} (x : List α) (j : Nat), (List.drop j x).length ≤ x.length := fun x j => by rw [List.length_drop]; omega
    have t1 := tk l i; have t2 := tk m i; have t3 := tk t i; have t4 := tk b d; have t5 := dr m i; have t6 := dr t i; have t7 := dr b d
    have td2 := takeDrop m i; have td3 := takeDrop t i; have td4 := takeDrop b d
    by_cases h : i < l.length
    · by_cases g : (l.getD i zz3).1 < (d : Int)
      · have e := m_spec_cut2 k hk fu z1 z2 z3 z4 l m t b r F d h0 h8 n (i + 1) (by omega) (by omega)
        rw [cutAt_drop h, if_pos g, show i + (cutAt d (l.drop (i + 1)) + 1) = i + 1 + cutAt d (l.drop (i + 1)) by omega]
        simp (disch := omega) only [bindS, nth0, nth1, nth2, nth3, bit, cell0, cell1, cell2, cell3, cell4, cell5, cell6, cell7, cell8, cell9, cell10, cell11, cell12, cell13, cell14, cell15, cell16, cell17, cell18, cell19, cell20, cell21, cell22, cell23, toInt_int, toBool_bool, toStr_str, nil_arr, r3_arr, r4_arr, ints_arr, bools_arr, strs_arr, nI, condT, condF, Bool.not_true, Bool.not_false, Bool.and_true, Bool.true_and, Bool.and_false, Bool.false_and, Bool.or_true, Bool.true_or, Bool.or_false, Bool.false_or, beq_self_eq_true, dTT, dFF, dT, dF, bigI, big0, nilApp, wrapI, wrapU, List.length_set, List.length_replicate, Int.toNat_natCast, castS, castS2, imax, imin, e]
      · have e := m_spec_cut7 k hk fu z1 z2 z3 z4 true true true true true true true true l m t b [] [] [] [] [] [] [] [] r 0 0 d (r - d) (l.take i) (m.take i) (t.take i) (b.take d) (m.drop i) (t.drop i) (b.drop d) hm (by omega) (by omega) (by omega) (join_roots F) (k + 0) i [] (by omega) (by omega) (by simp)
        rw [cutAt_drop h, if_neg g, Nat.add_zero]
        rw [List.nil_append, Nat.add_zero] at e
        rw [show decide (([] : List Cell).length = 0) = true from rfl] at e
        simp (disch := omega) only [bindS, nth0, nth1, nth2, nth3, bit, cell0, cell1, cell2, cell3, cell4, cell5, cell6, cell7, cell8, cell9, cell10, cell11, cell12, cell13, cell14, cell15, cell16, cell17, cell18, cell19, cell20, cell21, cell22, cell23, toInt_int, toBool_bool, toStr_str, nil_arr, r3_arr, r4_arr, ints_arr, bools_arr, strs_arr, nI, condT, condF, Bool.not_true, Bool.not_false, Bool.and_true, Bool.true_and, Bool.and_false, Bool.false_and, Bool.or_true, Bool.true_or, Bool.or_false, Bool.false_or, beq_self_eq_true, dTT, dFF, dT, dF, bigI, big0, nilApp, wrapI, wrapU, List.length_set, List.length_replicate, Int.toNat_natCast, castS, castS2, imax, imin, Int.toNat_zero, Nat.sub_zero, Nat.zero_add, List.drop_zero, big0, td2, td3, td4, e]
    · have e := m_spec_cut7 k hk fu z1 z2 z3 z4 true true true true true true true true l m t b [] [] [] [] [] [] [] [] r 0 0 d (r - d) (l.take i) (m.take i) (t.take i) (b.take d) (m.drop i) (t.drop i) (b.drop d) hm (by omega) (by omega) (by omega) (join_roots F) (k + 0) i [] (by omega) (by omega) (by simp)
      have e0 : cutAt d (l.drop i) = 0 := by rw [List.drop_of_length_le (by omega : l.length ≤ i)]; rfl
      rw [e0, Nat.add_zero]
      rw [List.nil_append, Nat.add_zero] at e
      rw [show decide (([] : List Cell).length = 0) = true from rfl] at e
      simp (disch := omega) only [bindS, nth0, nth1, nth2, nth3, bit, cell0, cell1, cell2, cell3, cell4, cell5, cell6, cell7, cell8, cell9, cell10, cell11, cell12, cell13, cell14, cell15, cell16, cell17, cell18, cell19, cell20, cell21, cell22, cell23, toInt_int, toBool_bool, toStr_str, nil_arr, r3_arr, r4_arr, ints_arr, bools_arr, strs_arr, nI, condT, condF, Bool.not_true, Bool.not_false, Bool.and_true, Bool.true_and, Bool.and_false, Bool.false_and, Bool.or_true, Bool.true_or, Bool.or_false, Bool.false_or, beq_self_eq_true, dTT, dFF, dT, dF, bigI, big0, nilApp, wrapI, wrapU, List.length_set, List.length_replicate, Int.toNat_natCast, castS, castS2, imax, imin, Int.toNat_zero, Nat.sub_zero, Nat.zero_add, List.drop_zero, big0, td2, td3, td4, e]
theorem m_impl_cut7 (k : Nat) (hk : 2000000 ≤ k) (fu : List (Nat × Nat)) (q1 q2 q3 q4 y1 y2 y3 y4 : Bool) (g1 : List Cell) (g2 g3 g4 : List Int) (e1 : List Cell) (e2 e3 e4 : List Int) (x11 x20 x29 x40 d : Int) (l : List Cell) (m t b : List Int) (o30 n31 o32 n33 o34 n35 o36 n37 o41 n42 o43 n44 o45 n46 : Nat) (full : List Cell)
    (h1 : (l.length : Int) ≤ 1000) (h2 : (m.length : Int) ≤ 1000) (h3 : (t.length : Int) ≤ 1000) (h4 : (b.length : Int) ≤ 1000) (hL : (full.length : Int) ≤ 1000) (h0 : 0 ≤ d) (h8 : d ≤ 8) (hr : ∀ i, i < full.length → 0 ≤ (full.getD i zz3).1 ∧ (full.getD i zz3).1 ≤ 8) : ∀ (n i : Nat) (lst : List Cell), i ≤ full.length → full.length - i < n → lst.length = full.length → lst.drop i = full.drop i →
    lp (k + 3) impl_State_cut [] fu 7 (n) (s_impl_State_cut_7 d (full.length : Int) (i : Int) q1 g1 q2 g2 q3 g3 q4 g4 x11 y1 e1 y2 e2 y3 e3 y4 e4 x20 false l false m false t false b x29 o30 n31 o32 n33 o34 n35 o36 n37 false lst x40 o41 n42 o43 n44 o45 n46) =
      some [.agg [.int .i64 (x29), .arr true (false) (.r3 (List.take n31 (List.drop o30 l))), .arr true (false) (.ints .i64 (List.take n33 (List.drop o32 m))), .arr true (false) (.ints .i64 (List.take n35 (List.drop o34 t))), .arr true (false) (.ints .i64 (List.take n37 (List.drop o36 b)))], .agg [.int .i64 (x40), .arr true (false) (.r3 (lst.take i ++ shiftR (-d) (full.drop i))), .arr true (false) (.ints .i64 (List.take n42 (List.drop o41 m))), .arr true (false) (.ints .i64 (List.take n44 (List.drop o43 t))), .arr true (false) (.ints .i64 (List.take n46 (List.drop o45 b)))]]
  | 0, i, lst, hi, hn, hl, he => by omega
  | n + 1, i, lst, hi, hn, hl, he => by
    rw [l_impl_State_cut_7]
    have tk : ∀ {α : Type} (x : List α) (j o : Nat), (List.take j (List.drop o x)).length ≤ x.length := fun x j o => by rw [List.length_take, List.length_drop]; omega
    by_cases h : i < full.length
    · have hg : lst.getD i zz3 = full.getD i zz3 := by
        rw [drop_at (by omega : i < lst.length) zz3, drop_at h zz3] at he
        exact (List.cons.inj he).1
      have hd : lst.drop (i + 1) = full.drop (i + 1) := by
        rw [drop_at (by omega : i < lst.length) zz3, drop_at h zz3] at he
        exact (List.cons.inj he).2
      have hx := hr i h
      have e := m_impl_cut7 k hk fu q1 q2 q3 q4 y1 y2 y3 y4 g1 g2 g3 g4 e1 e2 e3 e4 x11 x20 x29 x40 d l m t b o30 n31 o32 n33 o34 n35 o36 n37 o41 n42 o43 n44 o45 n46 full h1 h2 h3 h4 hL h0 h8 hr n (i + 1) (lst.set i ((full.getD i zz3).1 - d, (full.getD i zz3).2.1, (full.getD i zz3).2.2)) (by omega) (by omega) (by simp [hl]) (by rw [List.drop_set_of_lt (by omega)]; exact hd)
      rw [set_next lst lst i _ _ (by omega), ← shiftR_neg, ← drop_at h zz3] at e
      simp (disch := omega) only [bindS, nth0, nth1, nth2, nth3, bit, cell0, cell1, cell2, cell3, cell4, cell5, cell6, cell7, cell8, cell9, cell10, cell11, cell12, cell13, cell14, cell15, cell16, cell17, cell18, cell19, cell20, cell21, cell22, cell23, toInt_int, toBool_bool, toStr_str, nil_arr, r3_arr, r4_arr, ints_arr, bools_arr, strs_arr, nI, condT, condF, Bool.not_true, Bool.not_false, Bool.and_true, Bool.true_and, Bool.and_false, Bool.false_and, Bool.or_true, Bool.true_or, Bool.or_false, Bool.false_or, beq_self_eq_true, dTT, dFF, dT, dF, bigI, big0, nilApp, wrapI, wrapU, List.length_set, List.length_replicate, Int.toNat_natCast, castS, castS2, imax, imin, hg, hl, e]
    · have a1 := tk l n31 o30; have a2 := tk m n33 o32; have a3 := tk t n35 o34; have a4 := tk b n37 o36; have b2 := tk m n42 o41; have b3 := tk t n44 o43; have b4 := tk b n46 o45
      rw [List.drop_of_length_le (by omega : full.length ≤ i), shiftR_nil, List.append_nil, List.take_of_length_le (by omega : lst.length ≤ i)]
      simp (disch := omega) only [bindS, nth0, nth1, nth2, nth3, bit, cell0, cell1, cell2, cell3, cell4, cell5, cell6, cell7, cell8, cell9, cell10, cell11, cell12, cell13, cell14, cell15, cell16, cell17, cell18, cell19, cell20, cell21, cell22, cell23, toInt_int, toBool_bool, toStr_str, nil_arr, r3_arr, r4_arr, ints_arr, bools_arr, strs_arr, nI, condT, condF, Bool.not_true, Bool.not_false, Bool.and_true, Bool.true_and, Bool.and_false, Bool.false_and, Bool.or_true, Bool.true_or, Bool.or_false, Bool.false_or, beq_self_eq_true, dTT, dFF, dT, dF, bigI, big0, nilApp, wrapI, wrapU, List.length_set, List.length_replicate, Int.toNat_natCast, castS, castS2, imax, imin, c_impl_copyState]
theorem m_impl_cut2 (k : Nat) (hk : 2000000 ≤ k) (fu : List (Nat × Nat)) (l : List Cell) (m t b : List Int) (r : Int) (F : StF r l m t b) (d : Nat) (h0 : 1 ≤ d) (h8 : (d : Int) + 1 ≤ r) : ∀ (n i : Nat), i ≤ l.length → l.length - i < n →
    lp (k + 3) impl_State_cut [] fu 2 (n) (s_impl_State_cut_2 (d : Int) (i : Int) false l false m false t false b r true [] true [] true [] true [] 0 true [] true [] true [] true [] 0) =
      some [.agg [.int .i64 (d), .arr true (false) (.r3 (l.take (i + cutAt d (l.drop i)))), .arr true (false) (.ints .i64 (m.take (i + cutAt d (l.drop i)))), .arr true (false) (.ints .i64 (t.take (i + cutAt d (l.drop i)))), .arr true (false) (.ints .i64 (b.take d))], .agg [.int .i64 (r - d), .arr true (false) (.r3 (shiftR (-(d : Int)) (l.drop (i + cutAt d (l.drop i))))), .arr true (false) (.ints .i64 (m.drop (i + cutAt d (l.drop i)))), .arr true (false) (.ints .i64 (t.drop (i + cutAt d (l.drop i)))), .arr true (false) (.ints .i64 (b.drop d))]]
  | 0, i, hi, hn => by omega
  | n + 1, i, hi, hn => by
    rw [l_impl_State_cut_2]
    have := F.len; have hm := F.ml; have ht := F.tl; have hb := F.bl; have := F.rr
    have td1 := takeDrop l i; have td2 := takeDrop m i; have td3 := takeDrop t i; have td4 := takeDrop b d
    have hdl : (List.drop i l).length = l.length - i := List.length_drop ..
    have key : i ≤ l.length → lp (k + 3) impl_State_cut [] fu 7 (k + 3) (s_impl_State_cut_7 (d : Int) ((List.drop i l).length : Int) 0 true [] true [] true [] true [] 0 true [] true [] true [] true [] 0 false l false m false t false b (d : Int) 0 i 0 i 0 i 0 d false (List.drop i l) (r - d) i (m.length - i) i (t.length - i) d (b.length - d)) =
      some [.agg [.int .i64 (d), .arr true (false) (.r3 (l.take i)), .arr true (false) (.ints .i64 (m.take i)), .arr true (false) (.ints .i64 (t.take i)), .arr true (false) (.ints .i64 (b.take d))], .agg [.int .i64 (r - d), .arr true (false) (.r3 (shiftR (-(d : Int)) (l.drop i))), .arr true (false) (.ints .i64 (m.drop i)), .arr true (false) (.ints .i64 (t.drop i)), .arr true (false) (.ints .i64 (b.drop d))]] := fun _ => by
      have e := m_impl_cut7 k hk fu true true true true true true true true [] [] [] [] [] [] [] [] 0 0 d (r - d) d l m t b 0 i 0 i 0 i 0 d i (m.length - i) i (t.length - i) d (b.length - d) (l.drop i) (by omega) (by omega) (by omega) (by omega) (by omega) (by omega) (by omega)
        (fun j hj => by rw [show (List.drop i l).getD j zz3 = l.getD (i + j) zz3 by simp [List.getD_eq_getElem?_getD]]; exact join_roots F (i + j) (by omega)) (k + 3) 0 (l.drop i) (by omega) (by omega) rfl rfl
      simp only [List.drop_zero, List.take_zero, List.nil_append, td2, td3, td4] at e
      exact e
    by_cases h : i < l.length
    · by_cases g : (l.getD i zz3).1 < (d : Int)
      · have e := m_impl_cut2 k hk fu l m t b r F d h0 h8 n (i + 1) (by omega) (by omega)
        rw [cutAt_drop h, if_pos g, show i + (cutAt d (l.drop (i + 1)) + 1) = i + 1 + cutAt d (l.drop (i + 1)) by omega]
        simp (disch := omega) only [bindS, nth0, nth1, nth2, nth3, bit, cell0, cell1, cell2, cell3, cell4, cell5, cell6, cell7, cell8, cell9, cell10, cell11, cell12, cell13, cell14, cell15, cell16, cell17, cell18, cell19, cell20, cell21, cell22, cell23, toInt_int, toBool_bool, toStr_str, nil_arr, r3_arr, r4_arr, ints_arr, bools_arr, strs_arr, nI, condT, condF, Bool.not_true, Bool.not_false, Bool.and_true, Bool.true_and, Bool.and_false, Bool.false_and, Bool.or_true, Bool.true_or, Bool.or_false, Bool.false_or, beq_self_eq_true, dTT, dFF, dT, dF, bigI, big0, nilApp, wrapI, wrapU, List.length_set, List.length_replicate, Int.toNat_natCast, castS, castS2, imax, imin, e]
      · rw [cutAt_drop h, if_neg g, Nat.add_zero]
        simp (disch := omega) only [bindS, nth0, nth1, nth2, nth3, bit, cell0, cell1, cell2, cell3, cell4, cell5, cell6, cell7, cell8, cell9, cell10, cell11, cell12, cell13, cell14, cell15, cell16, cell17, cell18, cell19, cell20, cell21, cell22, cell23, toInt_int, toBool_bool, toStr_str, nil_arr, r3_arr, r4_arr, ints_arr, bools_arr, strs_arr, nI, condT, condF, Bool.not_true, Bool.not_false, Bool.and_true, Bool.true_and, Bool.and_false, Bool.false_and, Bool.or_true, Bool.true_or, Bool.or_false, Bool.false_or, beq_self_eq_true, dTT, dFF, dT, dF, bigI, big0, nilApp, wrapI, wrapU, List.length_set, List.length_replicate, Int.toNat_natCast, castS, castS2, imax, imin, Int.toNat_zero, Nat.sub_zero, Nat.zero_add, td1, c_slices_Clone_Id]
        exact key (by omega)
    · have e0 : cutAt d (l.drop i) = 0 := by rw [List.drop_of_length_le (by omega : l.length ≤ i)]; rfl
      rw [e0, Nat.add_zero]
      simp (disch := omega) only [bindS, nth0, nth1, nth2, nth3, bit, cell0, cell1, cell2, cell3, cell4, cell5, cell6, cell7, cell8, cell9, cell10, cell11, cell12, cell13, cell14, cell15, cell16, cell17, cell18, cell19, cell20, cell21, cell22, cell23, toInt_int, toBool_bool, toStr_str, nil_arr, r3_arr, r4_arr, ints_arr, bools_arr, strs_arr, nI, condT, condF, Bool.not_true, Bool.not_false, Bool.and_true, Bool.true_and, Bool.and_false, Bool.false_and, Bool.or_true, Bool.true_or, Bool.or_false, Bool.false_or, beq_self_eq_true, dTT, dFF, dT, dF, bigI, big0, nilApp, wrapI, wrapU, List.length_set, List.length_replicate, Int.toNat_natCast, castS, castS2, imax, imin, Int.toNat_zero, Nat.sub_zero, Nat.zero_add, td1, c_slices_Clone_Id]
      exact key (by omega)
theorem c_spec_l31Cut (k : Nat) (hk : 2000000 ≤ k) (a0 : Int) (a1z : Bool) (a1 : List Cell) (a2z : Bool) (a2 : List Int) (a3z : Bool) (a3 : List Int) (a4z : Bool) (a4 : List Int) (d : Nat) (F : StF a0 a1 a2 a3 a4) (h0 : 1 ≤ d) (h8 : (d : Int) + 1 ≤ a0) :
    go (k + 1) spec_l31Cut [.agg [.int .i64 (a0), .arr false (a1z) (.r3 (a1)), .arr false (a2z) (.ints .i64 (a2)), .arr false (a3z) (.ints .i64 (a3)), .arr false (a4z) (.ints .i64 (a4))], .int .i64 (d : Int)] = some [.agg [.int .i64 (d), .arr true (false) (.r3 (a1.take (cutAt d a1))), .arr true (false) (.ints .i64 (a2.take (cutAt d a1))), .arr true (false) (.ints .i64 (a3.take (cutAt d a1))), .arr true (false) (.ints .i64 (a4.take d))], .agg [.int .i64 (a0 - d), .arr true (decide ((shiftR (-(d : Int)) (a1.drop (cutAt d a1))).length = 0)) (.r3 (shiftR (-(d : Int)) (a1.drop (cutAt d a1)))), .arr true (false) (.ints .i64 (a2.drop (cutAt d a1))), .arr true (false) (.ints .i64 (a3.drop (cutAt d a1))), .arr true (false) (.ints .i64 (a4.drop d))]] := by
  rw [e_spec_l31Cut]
  have e := m_spec_cut2 k hk [] a1z a2z a3z a4z a1 a2 a3 a4 a0 F d h0 h8 (k + 0) 0 (by omega) (by have := F.len; omega)
  simp only [List.drop_zero, Nat.zero_add, Nat.add_zero] at e
  exact e
theorem c_impl_cut (k : Nat) (hk : 2000000 ≤ k) (a0 : Int) (a1 : List Cell) (a2 a3 a4 : List Int) (d : Nat) (F : StF a0 a1 a2 a3 a4) (h0 : 1 ≤ d) (h8 : (d : Int) + 1 ≤ a0) :
    go (k + 4) impl_State_cut [.agg [.int .i64 (a0), .arr false (false) (.r3 (a1)), .arr false (false) (.ints .i64 (a2)), .arr false (false) (.ints .i64 (a3)), .arr false (false) (.ints .i64 (a4))], .int .i64 (d : Int)] = some [.agg [.int .i64 (d), .arr true (false) (.r3 (a1.take (cutAt d a1))), .arr true (false) (.ints .i64 (a2.take (cutAt d a1))), .arr true (false) (.ints .i64 (a3.take (cutAt d a1))), .arr true (false) (.ints .i64 (a4.take d))], .agg [.int .i64 (a0 - d), .arr true (false) (.r3 (shiftR (-(d : Int)) (a1.drop (cutAt d a1)))), .arr true (false) (.ints .i64 (a2.drop (cutAt d a1))), .arr true (false) (.ints .i64 (a3.drop (cutAt d a1))), .arr true (false) (.ints .i64 (a4.drop d))]] := by
  rw [e_impl_State_cut]
  have e := m_impl_cut2 k hk [] a1 a2 a3 a4 a0 F d h0 h8 (k + 3) 0 (by omega) (by have := F.len; omega)
  simp only [List.drop_zero, Nat.zero_add] at e
  exact e
theorem c_spec_CutChannel (k : Nat) (hk : 2000000 ≤ k) (a0 : Int) (a1z : Bool) (a1 : List (Int × Int × Int)) (a2z : Bool) (a2 : List Int) (a3z : Bool) (a3 : List Int) (a4z : Bool) (a4 : List Int) (b : Int) (h1 : (a1.length : Int) ≤ 1048576) (h4 : (a4.length : Int) ≤ 1048576) :
    go (k + 8) spec_CutChannel [(.agg [(.int .i64 (a0)), (.arr false (a1z) (.r3 (a1))), (.arr false (a2z) (.ints .i64 (a2))), (.arr false (a3z) (.ints .i64 (a3))), (.arr false (a4z) (.ints .i64 (a4)))]), (.int .i64 (b))] = cond (stOk a0 a1 a2 a3 a4 && inR b 1 (a0 - 1)) (some [.agg [.int .i64 (b), .arr true (false) (.r3 (a1.take (cutAt b a1))), .arr true (false) (.ints .i64 (a2.take (cutAt b a1))), .arr true (false) (.ints .i64 (a3.take (cutAt b a1))), .arr true (false) (.ints .i64 (a4.take b.toNat))], .agg [.int .i64 (a0 - b), .arr true (decide ((shiftR (-b) (a1.drop (cutAt b a1))).length = 0)) (.r3 (shiftR (-b) (a1.drop (cutAt b a1)))), .arr true (false) (.ints .i64 (a2.drop (cutAt b a1))), .arr true (false) (.ints .i64 (a3.drop (cutAt b a1))), .arr true (false) (.ints .i64 (a4.drop b.toNat))], .bool true]) (some [emptyS, emptyS, .bool false]) := by
  rw [e_spec_CutChannel]
  simp (disch := omega) only [bindS, nth0, nth1, nth2, nth3, bit, cell0, cell1, cell2, cell3, cell4, cell5, cell6, cell7, cell8, cell9, cell10, cell11, cell12, cell13, cell14, cell15, cell16, cell17, cell18, cell19, cell20, cell21, cell22, cell23, toInt_int, toBool_bool, toStr_str, nil_arr, r3_arr, r4_arr, ints_arr, bools_arr, strs_arr, nI, condT, condF, Bool.not_true, Bool.not_false, Bool.and_true, Bool.true_and, Bool.and_false, Bool.false_and, Bool.or_true, Bool.true_or, Bool.or_false, Bool.false_or, beq_self_eq_true, dTT, dFF, dT, dF, bigI, big0, nilApp, wrapI, wrapU, List.length_set, List.length_replicate, Int.toNat_natCast, castS, castS2, imax, imin, c_spec_StateOk]
  cases g : stOk a0 a1 a2 a3 a4
  · simp only [Bool.not_false, condT, condF, Bool.false_and]
  have F := stF.1 g
  have := F.rr
  simp (disch := omega) only [bindS, nth0, nth1, nth2, nth3, bit, cell0, cell1, cell2, cell3, cell4, cell5, cell6, cell7, cell8, cell9, cell10, cell11, cell12, cell13, cell14, cell15, cell16, cell17, cell18, cell19, cell20, cell21, cell22, cell23, toInt_int, toBool_bool, toStr_str, nil_arr, r3_arr, r4_arr, ints_arr, bools_arr, strs_arr, nI, condT, condF, Bool.not_true, Bool.not_false, Bool.and_true, Bool.true_and, Bool.and_false, Bool.false_and, Bool.or_true, Bool.true_or, Bool.or_false, Bool.false_or, beq_self_eq_true, dTT, dFF, dT, dF, bigI, big0, nilApp, wrapI, wrapU, List.length_set, List.length_replicate, Int.toNat_natCast, castS, castS2, imax, imin, c_spec_l01In]
  cases g2 : inR b 1 (a0 - 1)
  · simp only [Bool.not_false, condT, condF]
  have g3 := inR_iff.1 g2
  obtain ⟨d, rfl⟩ : ∃ d : Nat, b = (d : Int) := ⟨b.toNat, by omega⟩
  simp only [Bool.not_true, condT, condF]
  rw [c_spec_l31Cut _ (by omega) _ _ _ _ _ _ _ _ _ d F (by omega) (by omega)]
  simp (disch := omega) only [bindS, nth0, nth1, nth2, nth3, bit, cell0, cell1, cell2, cell3, cell4, cell5, cell6, cell7, cell8, cell9, cell10, cell11, cell12, cell13, cell14, cell15, cell16, cell17, cell18, cell19, cell20, cell21, cell22, cell23, toInt_int, toBool_bool, toStr_str, nil_arr, r3_arr, r4_arr, ints_arr, bools_arr, strs_arr, nI, condT, condF, Bool.not_true, Bool.not_false, Bool.and_true, Bool.true_and, Bool.and_false, Bool.false_and, Bool.or_true, Bool.true_or, Bool.or_false, Bool.false_or, beq_self_eq_true, dTT, dFF, dT, dF, bigI, big0, nilApp, wrapI, wrapU, List.length_set, List.length_replicate, Int.toNat_natCast, castS, castS2, imax, imin]
theorem c_impl_CutChannel (k : Nat) (hk : 2000000 ≤ k) (a0 : Int) (a1 : List Cell) (a2 a3 a4 : List Int) (b : Int) (h1 : (a1.length : Int) ≤ 1048576) (h4 : (a4.length : Int) ≤ 1048576) :
    go (k + 9) impl_CutChannel [.agg [.int .i64 (a0), .arr false (false) (.r3 (a1)), .arr false (false) (.ints .i64 (a2)), .arr false (false) (.ints .i64 (a3)), .arr false (false) (.ints .i64 (a4))], .int .i64 b] = cond (stOk a0 a1 a2 a3 a4 && inR b 1 (a0 - 1)) (some [.agg [.int .i64 (b), .arr true (false) (.r3 (a1.take (cutAt b a1))), .arr true (false) (.ints .i64 (a2.take (cutAt b a1))), .arr true (false) (.ints .i64 (a3.take (cutAt b a1))), .arr true (false) (.ints .i64 (a4.take b.toNat))], .agg [.int .i64 (a0 - b), .arr true (false) (.r3 (shiftR (-b) (a1.drop (cutAt b a1)))), .arr true (false) (.ints .i64 (a2.drop (cutAt b a1))), .arr true (false) (.ints .i64 (a3.drop (cutAt b a1))), .arr true (false) (.ints .i64 (a4.drop b.toNat))], .bool true]) (some [emptyS, emptyS, .bool false]) := by
  rw [e_impl_CutChannel]
  simp (disch := omega) only [bindS, nth0, nth1, nth2, nth3, bit, cell0, cell1, cell2, cell3, cell4, cell5, cell6, cell7, cell8, cell9, cell10, cell11, cell12, cell13, cell14, cell15, cell16, cell17, cell18, cell19, cell20, cell21, cell22, cell23, toInt_int, toBool_bool, toStr_str, nil_arr, r3_arr, r4_arr, ints_arr, bools_arr, strs_arr, nI, condT, condF, Bool.not_true, Bool.not_false, Bool.and_true, Bool.true_and, Bool.and_false, Bool.false_and, Bool.or_true, Bool.true_or, Bool.or_false, Bool.false_or, beq_self_eq_true, dTT, dFF, dT, dF, bigI, big0, nilApp, wrapI, wrapU, List.length_set, List.length_replicate, Int.toNat_natCast, castS, castS2, imax, imin, c_impl_StateOk]
  cases g : stOk a0 a1 a2 a3 a4
  · simp only [Bool.not_false, condT, condF, Bool.false_and]
  have F := stF.1 g
  have := F.rr
  simp (disch := omega) only [bindS, nth0, nth1, nth2, nth3, bit, cell0, cell1, cell2, cell3, cell4, cell5, cell6, cell7, cell8, cell9, cell10, cell11, cell12, cell13, cell14, cell15, cell16, cell17, cell18, cell19, cell20, cell21, cell22, cell23, toInt_int, toBool_bool, toStr_str, nil_arr, r3_arr, r4_arr, ints_arr, bools_arr, strs_arr, nI, condT, condF, Bool.not_true, Bool.not_false, Bool.and_true, Bool.true_and, Bool.and_false, Bool.false_and, Bool.or_true, Bool.true_or, Bool.or_false, Bool.false_or, beq_self_eq_true, dTT, dFF, dT, dF, bigI, big0, nilApp, wrapI, wrapU, List.length_set, List.length_replicate, Int.toNat_natCast, castS, castS2, imax, imin, c_impl_within]
  cases g2 : inR b 1 (a0 - 1)
  · simp only [Bool.not_false, condT, condF]
  have g3 := inR_iff.1 g2
  obtain ⟨d, rfl⟩ : ∃ d : Nat, b = (d : Int) := ⟨b.toNat, by omega⟩
  simp only [Bool.not_true, condT, condF]
  rw [c_impl_cut _ (by omega) _ _ _ _ _ d F (by omega) (by omega)]
  simp (disch := omega) only [bindS, nth0, nth1, nth2, nth3, bit, cell0, cell1, cell2, cell3, cell4, cell5, cell6, cell7, cell8, cell9, cell10, cell11, cell12, cell13, cell14, cell15, cell16, cell17, cell18, cell19, cell20, cell21, cell22, cell23, toInt_int, toBool_bool, toStr_str, nil_arr, r3_arr, r4_arr, ints_arr, bools_arr, strs_arr, nI, condT, condF, Bool.not_true, Bool.not_false, Bool.and_true, Bool.true_and, Bool.and_false, Bool.false_and, Bool.or_true, Bool.true_or, Bool.or_false, Bool.false_or, beq_self_eq_true, dTT, dFF, dT, dF, bigI, big0, nilApp, wrapI, wrapU, List.length_set, List.length_replicate, Int.toNat_natCast, castS, castS2, imax, imin]
end Go.Proofs.Ytfgccfajhedgdaa
