/- A tick, as the program has it: masses and tracers moved. -/
import Derived.Test.YtfgccfajhedgdaaPMV
namespace Go.Proofs.Ytfgccfajhedgdaa
open Go.Ev
set_option linter.unusedVariables false
set_option linter.unusedSimpArgs false
set_option maxRecDepth 20000
theorem pcell0 (o : Bool) (d0 : D) (l : List D) : (D.ptr o (d0 :: l)).cell 0 = d0 := Eq.trans rfl rfl
theorem pcell1 (o : Bool) (d0 d1 : D) (l : List D) : (D.ptr o (d0 :: d1 :: l)).cell 1 = d1 := Eq.trans rfl rfl
theorem pcell2 (o : Bool) (d0 d1 d2 : D) (l : List D) : (D.ptr o (d0 :: d1 :: d2 :: l)).cell 2 = d2 := Eq.trans rfl rfl
theorem pcell3 (o : Bool) (d0 d1 d2 d3 : D) (l : List D) : (D.ptr o (d0 :: d1 :: d2 :: d3 :: l)).cell 3 = d3 := Eq.trans rfl rfl
theorem pcell4 (o : Bool) (d0 d1 d2 d3 d4 : D) (l : List D) : (D.ptr o (d0 :: d1 :: d2 :: d3 :: d4 :: l)).cell 4 = d4 := Eq.trans rfl rfl
theorem mem_take_succ {fs : List Nat} {p : Nat} (h : p < fs.length) (j : Nat) : j ∈ fs.take (p + 1) ↔ j ∈ fs.take p ∨ j = fs.getD p 0 := by
  rw [List.take_succ_eq_append_getElem h, List.mem_append, List.mem_singleton]
  simp [h]
def Rk (tk : Int) (l : List Cell) (m b : List Int) (fs : List Nat) (j : Nat) : Int := if j ∈ fs then rgt tk l m b j else 0
def Lk (tk : Int) (l : List Cell) (m b : List Int) (fs : List Nat) (j : Nat) : Int := if 1 ≤ j ∧ j - 1 ∈ fs then lft tk l m b j else 0
theorem m_move2 (k : Nat) (hk : 2000000 ≤ k) (fu : List (Nat × Nat)) (a0 : Int) (a1z : Bool) (a1 : List Cell) (a2z : Bool) (a2 : List Int) (a3z : Bool) (a3 : List Int) (a4z : Bool) (a4 : List Int) (z1 z2 z3 z4 z5 : Bool) (r : Int) (l : List Cell) (m t b : List Int) (tk : Int) (F : StF r l m t b) (fs : List Nat) (hf : ∀ i ∈ fs, i + 1 < l.length ∧ isAct tk (faceLv l i) = true) (hfl : (fs.length : Int) ≤ 1000) : ∀ (n p : Nat), p ≤ fs.length → fs.length - p < n →
    lp (k + 5) impl_State_move [(.ptr true [(.int .i64 (a0)), (.arr true (a1z) (.r3 (a1))), (.arr true (a2z) (.ints .i64 (a2))), (.arr true (a3z) (.ints .i64 (a3))), (.arr true (a4z) (.ints .i64 (a4)))])] fu 2 (n) (s_impl_State_move_2 (fs.length : Int) (p : Int) z1 l z2 m z3 t z4 b r false (tab l.length (Rk tk l m b (fs.take p))) false (tab l.length (Lk tk l m b (fs.take p))) z5 (nats fs)) = lp (k + 5) impl_State_move [(.ptr true [(.int .i64 (a0)), (.arr true (a1z) (.r3 (a1))), (.arr true (a2z) (.ints .i64 (a2))), (.arr true (a3z) (.ints .i64 (a3))), (.arr true (a4z) (.ints .i64 (a4)))])] fu 12 (k + 5) (s_impl_State_move_12 (l.length : Int) 0 z1 l z2 m z3 t z4 b r false (tab l.length (Rk tk l m b fs)) false (tab l.length (Lk tk l m b fs)) false (List.replicate l.length 0) false (List.replicate l.length 0))
  | 0, p, hp, hn => by omega
  | n + 1, p, hp, hn => by
    have hl := F.len; have hm := F.ml
    have nl := nats_len fs
    rw [l_impl_State_move_2]
    by_cases h : p < fs.length
    · obtain ⟨h1, h2⟩ := hf _ (getD_mem h 0)
      have ng := nats_getD h
      have hz : ff tk l m b (fs.getD p 0) = fl l m b (fs.getD p 0) := by unfold ff actAt; rw [h2, dT h1]; rfl
      have b0 := fl_le F (fs.getD p 0); have a0' := F.at (fs.getD p 0); have a1' := F.at (fs.getD p 0 + 1)
      have IH := m_move2 k hk fu a0 a1z a1 a2z a2 a3z a3 a4z a4 z1 z2 z3 z4 z5 r l m t b tk F fs hf hfl n (p + 1) (by omega) (by omega)
      have eF := c_impl_sflux (k + 5 - 5) (by omega) r z1 z2 z3 z4 l m t b F (fs.getD p 0) h1
      rw [show k + 5 - 5 + 5 = k + 5 by omega] at eF
      by_cases g : 0 < fl l m b (fs.getD p 0)
      · have q1 : tab l.length (fun j => if j = fs.getD p 0 then fl l m b (fs.getD p 0) else Rk tk l m b (fs.take p) j) = tab l.length (Rk tk l m b (fs.take (p + 1))) := tab_congr fun j hj => by
          unfold Rk
          simp only [mem_take_succ h]
          by_cases e : j = fs.getD p 0
          · rw [if_pos e, if_pos (.inr e), e]; unfold rgt; rw [hz]; omega
          · rw [if_neg e]; simp only [e, or_false]
        have q2 : tab l.length (Lk tk l m b (fs.take p)) = tab l.length (Lk tk l m b (fs.take (p + 1))) := tab_congr fun j hj => by
          unfold Lk
          simp only [mem_take_succ h]
          by_cases e : 1 ≤ j ∧ j - 1 = fs.getD p 0
          · have : lft tk l m b j = 0 := by unfold lft; rw [if_pos e.1, e.2, hz]; omega
            rw [this]; simp
          · have : (1 ≤ j ∧ (j - 1 ∈ fs.take p ∨ j - 1 = fs.getD p 0)) = (1 ≤ j ∧ j - 1 ∈ fs.take p) := propext ⟨fun hh => ⟨hh.1, hh.2.resolve_right fun e2 => e ⟨hh.1, e2⟩⟩, fun hh => ⟨hh.1, .inl hh.2⟩⟩
            simp only [this]
        rw [← q1, ← q2] at IH
        simp (disch := omega) only [bindS, nth0, nth1, nth2, nth3, bit, cell0, cell1, cell2, cell3, cell4, cell5, cell6, cell7, cell8, cell9, cell10, cell11, cell12, cell13, cell14, cell15, cell16, cell17, cell18, cell19, cell20, cell21, cell22, cell23, toInt_int, toBool_bool, toStr_str, nil_arr, r3_arr, r4_arr, ints_arr, bools_arr, strs_arr, nI, condT, condF, Bool.not_true, Bool.not_false, Bool.and_true, Bool.true_and, Bool.and_false, Bool.false_and, Bool.or_true, Bool.true_or, Bool.or_false, Bool.false_or, beq_self_eq_true, dTT, dFF, dT, dF, bigI, big0, nilApp, wrapI, wrapU, List.length_set, List.length_replicate, Int.toNat_natCast, castS, castS2, imax, imin, nl, ng, eF, tab_len, tab_set, IH]
      · have q1 : tab l.length (fun j => if j = fs.getD p 0 + 1 then 0 - fl l m b (fs.getD p 0) else Lk tk l m b (fs.take p) j) = tab l.length (Lk tk l m b (fs.take (p + 1))) := tab_congr fun j hj => by
          unfold Lk
          simp only [mem_take_succ h]
          by_cases e : j = fs.getD p 0 + 1
          · rw [if_pos e, if_pos ⟨by omega, .inr (by omega)⟩]; unfold lft; rw [if_pos (by omega), show j - 1 = fs.getD p 0 by omega, hz]; omega
          · rw [if_neg e]
            have : (1 ≤ j ∧ (j - 1 ∈ fs.take p ∨ j - 1 = fs.getD p 0)) = (1 ≤ j ∧ j - 1 ∈ fs.take p) := propext ⟨fun hh => ⟨hh.1, hh.2.resolve_right fun e2 => e (by omega)⟩, fun hh => ⟨hh.1, .inl hh.2⟩⟩
            simp only [this]
        have q2 : tab l.length (Rk tk l m b (fs.take p)) = tab l.length (Rk tk l m b (fs.take (p + 1))) := tab_congr fun j hj => by
          unfold Rk
          simp only [mem_take_succ h]
          by_cases e : j = fs.getD p 0
          · have : rgt tk l m b j = 0 := by unfold rgt; rw [e, hz]; omega
            rw [this]; simp
          · simp only [e, or_false]
        rw [← q1, ← q2] at IH
        simp (disch := omega) only [bindS, nth0, nth1, nth2, nth3, bit, cell0, cell1, cell2, cell3, cell4, cell5, cell6, cell7, cell8, cell9, cell10, cell11, cell12, cell13, cell14, cell15, cell16, cell17, cell18, cell19, cell20, cell21, cell22, cell23, toInt_int, toBool_bool, toStr_str, nil_arr, r3_arr, r4_arr, ints_arr, bools_arr, strs_arr, nI, condT, condF, Bool.not_true, Bool.not_false, Bool.and_true, Bool.true_and, Bool.and_false, Bool.false_and, Bool.or_true, Bool.true_or, Bool.or_false, Bool.false_or, beq_self_eq_true, dTT, dFF, dT, dF, bigI, big0, nilApp, wrapI, wrapU, List.length_set, List.length_replicate, Int.toNat_natCast, castS, castS2, imax, imin, nl, ng, eF, tab_len, tab_set, IH]
    · rw [List.take_of_length_le (by omega)]
      simp (disch := omega) only [bindS, nth0, nth1, nth2, nth3, bit, cell0, cell1, cell2, cell3, cell4, cell5, cell6, cell7, cell8, cell9, cell10, cell11, cell12, cell13, cell14, cell15, cell16, cell17, cell18, cell19, cell20, cell21, cell22, cell23, toInt_int, toBool_bool, toStr_str, nil_arr, r3_arr, r4_arr, ints_arr, bools_arr, strs_arr, nI, condT, condF, Bool.not_true, Bool.not_false, Bool.and_true, Bool.true_and, Bool.and_false, Bool.false_and, Bool.or_true, Bool.true_or, Bool.or_false, Bool.false_or, beq_self_eq_true, dTT, dFF, dT, dF, bigI, big0, nilApp, wrapI, wrapU, List.length_set, List.length_replicate, Int.toNat_natCast, castS, castS2, imax, imin]
      rw [hm]
def gk (A B : Nat → Int) (k j : Nat) : Int := 0 - (if j < k then A j + B j else 0) + (if 1 ≤ j ∧ j ≤ k then A (j - 1) else 0) + (if j + 1 < k then B (j + 1) else 0)
theorem gk_step (L : Nat) (A B : Nat → Int) (i : Nat) : tab L (upd (gk A B i) i (A i) (B i)) = tab L (gk A B (i + 1)) := tab_congr fun j hj => by
  unfold upd
  by_cases g1 : 1 ≤ i ∧ j = i - 1
  · obtain ⟨g1, rfl⟩ := g1
    rw [if_pos ⟨g1, rfl⟩]
    unfold gk
    rw [if_pos (show i - 1 < i by omega), if_neg (show ¬ (i - 1 + 1 < i) by omega), if_pos (show i - 1 < i + 1 by omega), if_pos (show i - 1 + 1 < i + 1 by omega), show i - 1 + 1 = i by omega]
    have e2 : (1 ≤ i - 1 ∧ i - 1 ≤ i) = (1 ≤ i - 1 ∧ i - 1 ≤ i + 1) := by rw [eq_iff_iff]; omega
    simp only [e2]; omega
  · rw [if_neg g1]
    by_cases g2 : j = i + 1
    · subst g2
      rw [if_pos rfl]
      unfold gk
      rw [if_neg (show ¬ (i + 1 < i) by omega), if_neg (show ¬ (1 ≤ i + 1 ∧ i + 1 ≤ i) by omega), if_neg (show ¬ (i + 1 + 1 < i) by omega), if_neg (show ¬ (i + 1 < i + 1) by omega), if_pos (show 1 ≤ i + 1 ∧ i + 1 ≤ i + 1 by omega), if_neg (show ¬ (i + 1 + 1 < i + 1) by omega), Nat.add_sub_cancel]; omega
    · rw [if_neg g2]
      by_cases g3 : j = i
      · subst g3
        rw [if_pos rfl]
        unfold gk
        rw [if_neg (show ¬ (j < j) by omega), if_neg (show ¬ (j + 1 < j) by omega), if_pos (show j < j + 1 by omega), if_neg (show ¬ (j + 1 < j + 1) by omega)]
        have e2 : (1 ≤ j ∧ j ≤ j) = (1 ≤ j ∧ j ≤ j + 1) := by rw [eq_iff_iff]; omega
        simp only [e2]; omega
      · rw [if_neg g3]
        unfold gk
        have e1 : (j < i) = (j < i + 1) := by rw [eq_iff_iff]; omega
        have e2 : (1 ≤ j ∧ j ≤ i) = (1 ≤ j ∧ j ≤ i + 1) := by rw [eq_iff_iff]; omega
        have e3 : (j + 1 < i) = (j + 1 < i + 1) := by rw [eq_iff_iff]; omega
        simp only [e1, e2, e3]
theorem gk_le {A B : Nat → Int} {C : Int} (hA : ∀ j, -C ≤ A j ∧ A j ≤ C) (hB : ∀ j, -C ≤ B j ∧ B j ≤ C) (k j : Nat) : -(4 * C) ≤ gk A B k j ∧ gk A B k j ≤ 4 * C := by
  have a := hA j; have b := hB j; have c := hA (j - 1); have d := hB (j + 1)
  unfold gk
  split <;> split <;> split <;> omega
theorem gk_zero (L : Nat) (A B : Nat → Int) : List.replicate L (0 : Int) = tab L (gk A B 0) := by
  rw [tab_zero]
  refine tab_congr fun j hj => ?_
  unfold gk
  rw [if_neg (by omega), if_neg (by omega), if_neg (by omega)]; rfl
def sh (G : Nat → Int) (i u : Nat) (x : Int) (j : Nat) : Int := if j = u then G u + x else if j = i then G i - x else G j
theorem c_shift_pos (k : Nat) (hk : 2000000 ≤ k) (L : Nat) (G H : Nat → Int) (i u : Nat) (x y : Int) (z z' : Bool) (hi : i < L) (hu : u < L) (hiu : i ≠ u) (hx : 0 < x) (hL : (L : Int) ≤ 1000) (hx2 : x ≤ 1000000000000000000) (hy : -1000000000000000000 ≤ y ∧ y ≤ 1000000000000000000)
    (g1 : -1000000000000000000 ≤ G i ∧ G i ≤ 1000000000000000000) (g2 : -1000000000000000000 ≤ G u ∧ G u ≤ 1000000000000000000) (g3 : -1000000000000000000 ≤ H i ∧ H i ≤ 1000000000000000000) (g4 : -1000000000000000000 ≤ H u ∧ H u ≤ 1000000000000000000) :
    go (k + 1) impl_State_move_1 [.int .i64 (i : Int), .int .i64 (u : Int), .int .i64 x, .int .i64 y, .ptr true [.arr true z (.ints .i64 (tab L G))], .ptr true [.arr true z' (.ints .i64 (tab L H))]] = some [.ptr true [.arr true z (.ints .i64 (tab L (sh G i u x)))], .ptr true [.arr true z' (.ints .i64 (tab L (sh H i u y)))]] := by
  rw [e_impl_State_move_1_v1]
  simp (disch := omega) only [bindS, nth0, nth1, nth2, nth3, bit, cell0, cell1, cell2, cell3, cell4, cell5, cell6, cell7, cell8, cell9, cell10, cell11, cell12, cell13, cell14, cell15, cell16, cell17, cell18, cell19, cell20, cell21, cell22, cell23, toInt_int, toBool_bool, toStr_str, nil_arr, r3_arr, r4_arr, ints_arr, bools_arr, strs_arr, nI, condT, condF, Bool.not_true, Bool.not_false, Bool.and_true, Bool.true_and, Bool.and_false, Bool.false_and, Bool.or_true, Bool.true_or, Bool.or_false, Bool.false_or, beq_self_eq_true, dTT, dFF, dT, dF, bigI, big0, nilApp, wrapI, wrapU, List.length_set, List.length_replicate, Int.toNat_natCast, castS, castS2, imax, imin, tab_len, tab_getD, tab_set, itT, itF, niF, if_neg]
  rfl
theorem c_shift_zero (k : Nat) (hk : 2000000 ≤ k) (a b x y : Int) (z z' : Bool) (l l' : List Int) (hx : x = 0) :
    go (k + 1) impl_State_move_1 [.int .i64 a, .int .i64 b, .int .i64 x, .int .i64 y, .ptr true [.arr true z (.ints .i64 l)], .ptr true [.arr true z' (.ints .i64 l')]] = some [.ptr true [.arr true z (.ints .i64 l)], .ptr true [.arr true z' (.ints .i64 l')]] := by
  rw [e_impl_State_move_1_v1]
  simp (disch := omega) only [bindS, nth0, nth1, nth2, nth3, bit, cell0, cell1, cell2, cell3, cell4, cell5, cell6, cell7, cell8, cell9, cell10, cell11, cell12, cell13, cell14, cell15, cell16, cell17, cell18, cell19, cell20, cell21, cell22, cell23, toInt_int, toBool_bool, toStr_str, nil_arr, r3_arr, r4_arr, ints_arr, bools_arr, strs_arr, nI, condT, condF, Bool.not_true, Bool.not_false, Bool.and_true, Bool.true_and, Bool.and_false, Bool.false_and, Bool.or_true, Bool.true_or, Bool.or_false, Bool.false_or, beq_self_eq_true, dTT, dFF, dT, dF, bigI, big0, nilApp, wrapI, wrapU, List.length_set, List.length_replicate, Int.toNat_natCast, castS, castS2, imax, imin]
theorem sh_rl {G : Nat → Int} {i : Nat} {A B : Int} (g : 1 ≤ i) : sh (sh G i (i + 1) A) i (i - 1) B = upd G i A B := by
  funext j
  unfold sh upd
  by_cases q1 : j = i - 1
  · subst q1; simp (disch := omega) only [itT, true_and, and_true, if_pos, if_neg]
  · by_cases q2 : j = i + 1
    · subst q2; simp (disch := omega) only [itT, true_and, and_true, if_pos, if_neg]
    · by_cases q3 : j = i
      · subst q3; simp (disch := omega) only [itT, true_and, and_true, if_pos, if_neg]
      · simp (disch := omega) only [if_neg]
theorem sh_r {G : Nat → Int} {i : Nat} {A B : Int} (hB : B = 0) : sh G i (i + 1) A = upd G i A B := by
  funext j
  unfold sh upd
  subst hB
  by_cases q1 : 1 ≤ i ∧ j = i - 1
  · obtain ⟨q0, rfl⟩ := q1; simp (disch := omega) only [itT, true_and, and_true, if_pos, if_neg, Int.add_zero]
  · by_cases q2 : j = i + 1
    · subst q2; simp (disch := omega) only [itT, true_and, and_true, if_pos, if_neg]
    · by_cases q3 : j = i
      · subst q3; simp (disch := omega) only [itT, true_and, and_true, if_pos, if_neg, Int.sub_zero]
      · simp (disch := omega) only [if_neg]
theorem sh_l {G : Nat → Int} {i : Nat} {A B : Int} (g : 1 ≤ i) (hA : A = 0) : sh G i (i - 1) B = upd G i A B := by
  funext j
  unfold sh upd
  subst hA
  by_cases q1 : j = i - 1
  · subst q1; simp (disch := omega) only [itT, true_and, and_true, if_pos, if_neg]
  · by_cases q2 : j = i + 1
    · subst q2; simp (disch := omega) only [itT, true_and, and_true, if_pos, if_neg, Int.add_zero]
    · by_cases q3 : j = i
      · subst q3; simp (disch := omega) only [itT, true_and, and_true, if_pos, if_neg, Int.sub_zero]
      · simp (disch := omega) only [if_neg]
theorem sh_0 {G : Nat → Int} {i : Nat} {A B : Int} (hA : A = 0) (hB : B = 0) : G = upd G i A B := by
  funext j
  unfold upd
  subst hA hB
  by_cases q1 : 1 ≤ i ∧ j = i - 1
  · simp (disch := omega) only [itT, true_and, and_true, if_pos, if_neg, Int.add_zero]
  · by_cases q2 : j = i + 1
    · subst q2; simp (disch := omega) only [itT, true_and, and_true, if_pos, if_neg, Int.add_zero]
    · by_cases q3 : j = i
      · subst q3; simp (disch := omega) only [itT, true_and, and_true, if_pos, if_neg, Int.sub_zero]
      · simp (disch := omega) only [if_neg]
theorem rgtB {r : Int} {l : List Cell} {m t b : List Int} (F : StF r l m t b) (tk : Int) (j : Nat) : 0 ≤ rgt tk l m b j ∧ rgt tk l m b j ≤ 2500000 := by
  have f1 := ff_le F tk j; have a0 := F.at j
  unfold rgt; omega
theorem lftB {r : Int} {l : List Cell} {m t b : List Int} (F : StF r l m t b) (tk : Int) (j : Nat) : 0 ≤ lft tk l m b j ∧ lft tk l m b j ≤ 2500000 := by
  have f1 := ff_le F tk (j - 1); have a0 := F.at (j - 1 + 1)
  unfold lft
  split <;> omega
set_option maxHeartbeats 1000000 in
theorem m_move12 (k : Nat) (hk : 2000000 ≤ k) (fu : List (Nat × Nat)) (a0 : Int) (a1z : Bool) (a1 : List Cell) (a2z : Bool) (a2 : List Int) (a3z : Bool) (a3 : List Int) (a4z : Bool) (a4 : List Int) (z1 z2 z3 z4 : Bool) (r : Int) (l : List Cell) (m t b : List Int) (tk : Int) (F : StF r l m t b) : ∀ (n i : Nat), i ≤ l.length → l.length - i < n →
    lp (k + 5) impl_State_move [(.ptr true [(.int .i64 (a0)), (.arr true (a1z) (.r3 (a1))), (.arr true (a2z) (.ints .i64 (a2))), (.arr true (a3z) (.ints .i64 (a3))), (.arr true (a4z) (.ints .i64 (a4)))])] fu 12 (n) (s_impl_State_move_12 (l.length : Int) (i : Int) z1 l z2 m z3 t z4 b r false (tab l.length (rgt tk l m b)) false (tab l.length (lft tk l m b)) false (tab l.length (gk (rgt tk l m b) (lft tk l m b) i)) false (tab l.length (gk (outA tk l m t b) (outB tk l m t b) i))) =
      lp (k + 5) impl_State_move [(.ptr true [(.int .i64 (a0)), (.arr true (a1z) (.r3 (a1))), (.arr true (a2z) (.ints .i64 (a2))), (.arr true (a3z) (.ints .i64 (a3))), (.arr true (a4z) (.ints .i64 (a4)))])] fu 19 (k + 5) (s_impl_State_move_19 (l.length : Int) 0 z1 l z2 m z3 t z4 b r false (tab l.length (gk (rgt tk l m b) (lft tk l m b) l.length)) false (tab l.length (gk (outA tk l m t b) (outB tk l m t b) l.length)))
  | 0, i, hi, hn => by omega
  | n + 1, i, hi, hn => by
    have hl := F.len; have hm := F.ml; have ht := F.tl
    rw [l_impl_State_move_12]
    by_cases h : i < l.length
    · have IH := m_move12 k hk fu a0 a1z a1 a2z a2 a3z a3 a4z a4 z1 z2 z3 z4 r l m t b tk F n (i + 1) (by omega) (by omega)
      rw [← gk_step l.length (rgt tk l m b) (lft tk l m b) i, ← gk_step l.length (outA tk l m t b) (outB tk l m t b) i] at IH
      have B1 : ∀ p j, -10000000 ≤ gk (rgt tk l m b) (lft tk l m b) p j ∧ gk (rgt tk l m b) (lft tk l m b) p j ≤ 10000000 := fun p j => gk_le (C := 2500000) (fun j => by have := rgtB F tk j; omega) (fun j => by have := lftB F tk j; omega) p j
      have B2 : ∀ p j, -400000000000000000 ≤ gk (outA tk l m t b) (outB tk l m t b) p j ∧ gk (outA tk l m t b) (outB tk l m t b) p j ≤ 400000000000000000 := fun p j => gk_le (C := 100000000000000000) (fun j => by have := outA_le tk l m t b j; omega) (fun j => outB_le tk l m t b j) p j
      have r1 := rgtB F tk i; have r2 := lftB F tk i
      have A := outA_le tk l m t b i; have B := outB_le tk l m t b i
      have b1 := B1 i i; have b2 := B1 i (i + 1); have b3 := B1 i (i - 1); have c1 := B2 i i; have c2 := B2 i (i + 1); have c3 := B2 i (i - 1)
      have hA : loA (t.getD i 0) (m.getD i 0) (rgt tk l m b i) (lft tk l m b i) = outA tk l m t b i := rfl
      have hB : loB (t.getD i 0) (m.getD i 0) (rgt tk l m b i) (lft tk l m b i) = outB tk l m t b i := rfl
      have hi1 : 0 < rgt tk l m b i → i + 1 < l.length := fun g4 => by
        rcases Nat.lt_or_ge (i + 1) l.length with q | q
        · exact q
        · unfold rgt at g4; rw [ff_end q] at g4; omega
      have hi0 : 0 < lft tk l m b i → 1 ≤ i := fun g4 => by
        rcases Nat.lt_or_ge 0 i with q | q
        · exact q
        · unfold lft at g4; rw [if_neg (by omega)] at g4; omega
      have zA : rgt tk l m b i = 0 → outA tk l m t b i = 0 := outA_zero
      have zB : lft tk l m b i = 0 → outB tk l m t b i = 0 := outB_zero
      by_cases g4 : 0 < rgt tk l m b i
      · have i1 := hi1 g4
        have s1 := c_shift_pos (k + 5 - 1) (by omega) l.length (gk (rgt tk l m b) (lft tk l m b) i) (gk (outA tk l m t b) (outB tk l m t b) i) i (i + 1) (rgt tk l m b i) (outA tk l m t b i) false false h i1 (by omega) g4 (by omega) (by omega) (by omega) (by omega) (by omega) (by omega) (by omega)
        rw [show k + 5 - 1 + 1 = k + 5 by omega] at s1
        by_cases g5 : 0 < lft tk l m b i
        · have i0 := hi0 g5
          have e1 : sh (gk (rgt tk l m b) (lft tk l m b) i) i (i + 1) (rgt tk l m b i) i = gk (rgt tk l m b) (lft tk l m b) i i - rgt tk l m b i := by unfold sh; rw [if_neg (by omega), if_pos rfl]
          have e2 : sh (gk (rgt tk l m b) (lft tk l m b) i) i (i + 1) (rgt tk l m b i) (i - 1) = gk (rgt tk l m b) (lft tk l m b) i (i - 1) := by unfold sh; rw [if_neg (by omega), if_neg (by omega)]
          have e3 : sh (gk (outA tk l m t b) (outB tk l m t b) i) i (i + 1) (outA tk l m t b i) i = gk (outA tk l m t b) (outB tk l m t b) i i - outA tk l m t b i := by unfold sh; rw [if_neg (by omega), if_pos rfl]
          have e4 : sh (gk (outA tk l m t b) (outB tk l m t b) i) i (i + 1) (outA tk l m t b i) (i - 1) = gk (outA tk l m t b) (outB tk l m t b) i (i - 1) := by unfold sh; rw [if_neg (by omega), if_neg (by omega)]
          have s2 := c_shift_pos (k + 5 - 1) (by omega) l.length (sh (gk (rgt tk l m b) (lft tk l m b) i) i (i + 1) (rgt tk l m b i)) (sh (gk (outA tk l m t b) (outB tk l m t b) i) i (i + 1) (outA tk l m t b i)) i (i - 1) (lft tk l m b i) (outB tk l m t b i) false false h (by omega) (by omega) g5 (by omega) (by omega) (by omega) (by omega) (by omega) (by omega) (by omega)
          rw [show k + 5 - 1 + 1 = k + 5 by omega] at s2
          rw [← sh_rl i0, ← sh_rl i0] at IH
          simp (disch := omega) only [bindS, nth0, nth1, nth2, nth3, bit, cell0, cell1, cell2, cell3, cell4, cell5, cell6, cell7, cell8, cell9, cell10, cell11, cell12, cell13, cell14, cell15, cell16, cell17, cell18, cell19, cell20, cell21, cell22, cell23, toInt_int, toBool_bool, toStr_str, nil_arr, r3_arr, r4_arr, ints_arr, bools_arr, strs_arr, nI, condT, condF, Bool.not_true, Bool.not_false, Bool.and_true, Bool.true_and, Bool.and_false, Bool.false_and, Bool.or_true, Bool.true_or, Bool.or_false, Bool.false_or, beq_self_eq_true, dTT, dFF, dT, dF, bigI, big0, nilApp, wrapI, wrapU, List.length_set, List.length_replicate, Int.toNat_natCast, castS, castS2, imax, imin, castP, tab_len, tab_getD, pcell0, c_impl_LeafOut, hA, hB, s1, s2]
          exact IH
        · have z0 : lft tk l m b i = 0 := by omega
          rw [← sh_r z0, ← sh_r (zB z0)] at IH
          simp (disch := omega) only [bindS, nth0, nth1, nth2, nth3, bit, cell0, cell1, cell2, cell3, cell4, cell5, cell6, cell7, cell8, cell9, cell10, cell11, cell12, cell13, cell14, cell15, cell16, cell17, cell18, cell19, cell20, cell21, cell22, cell23, toInt_int, toBool_bool, toStr_str, nil_arr, r3_arr, r4_arr, ints_arr, bools_arr, strs_arr, nI, condT, condF, Bool.not_true, Bool.not_false, Bool.and_true, Bool.true_and, Bool.and_false, Bool.false_and, Bool.or_true, Bool.true_or, Bool.or_false, Bool.false_or, beq_self_eq_true, dTT, dFF, dT, dF, bigI, big0, nilApp, wrapI, wrapU, List.length_set, List.length_replicate, Int.toNat_natCast, castS, castS2, imax, imin, tab_len, tab_getD, pcell0, c_impl_LeafOut, hA, hB, s1, c_shift_zero]
          exact IH
      · have z1' : rgt tk l m b i = 0 := by omega
        by_cases g5 : 0 < lft tk l m b i
        · have i0 := hi0 g5
          have s2 := c_shift_pos (k + 5 - 1) (by omega) l.length (gk (rgt tk l m b) (lft tk l m b) i) (gk (outA tk l m t b) (outB tk l m t b) i) i (i - 1) (lft tk l m b i) (outB tk l m t b i) false false h (by omega) (by omega) g5 (by omega) (by omega) (by omega) (by omega) (by omega) (by omega) (by omega)
          rw [show k + 5 - 1 + 1 = k + 5 by omega] at s2
          rw [← sh_l i0 z1', ← sh_l i0 (zA z1')] at IH
          simp (disch := omega) only [bindS, nth0, nth1, nth2, nth3, bit, cell0, cell1, cell2, cell3, cell4, cell5, cell6, cell7, cell8, cell9, cell10, cell11, cell12, cell13, cell14, cell15, cell16, cell17, cell18, cell19, cell20, cell21, cell22, cell23, toInt_int, toBool_bool, toStr_str, nil_arr, r3_arr, r4_arr, ints_arr, bools_arr, strs_arr, nI, condT, condF, Bool.not_true, Bool.not_false, Bool.and_true, Bool.true_and, Bool.and_false, Bool.false_and, Bool.or_true, Bool.true_or, Bool.or_false, Bool.false_or, beq_self_eq_true, dTT, dFF, dT, dF, bigI, big0, nilApp, wrapI, wrapU, List.length_set, List.length_replicate, Int.toNat_natCast, castS, castS2, imax, imin, castP, tab_len, tab_getD, pcell0, c_impl_LeafOut, hA, hB, s2, c_shift_zero]
          exact IH
        · have z0 : lft tk l m b i = 0 := by omega
          rw [← sh_0 z1' z0, ← sh_0 (zA z1') (zB z0)] at IH
          simp (disch := omega) only [bindS, nth0, nth1, nth2, nth3, bit, cell0, cell1, cell2, cell3, cell4, cell5, cell6, cell7, cell8, cell9, cell10, cell11, cell12, cell13, cell14, cell15, cell16, cell17, cell18, cell19, cell20, cell21, cell22, cell23, toInt_int, toBool_bool, toStr_str, nil_arr, r3_arr, r4_arr, ints_arr, bools_arr, strs_arr, nI, condT, condF, Bool.not_true, Bool.not_false, Bool.and_true, Bool.true_and, Bool.and_false, Bool.false_and, Bool.or_true, Bool.true_or, Bool.or_false, Bool.false_or, beq_self_eq_true, dTT, dFF, dT, dF, bigI, big0, nilApp, wrapI, wrapU, List.length_set, List.length_replicate, Int.toNat_natCast, castS, castS2, imax, imin, tab_len, tab_getD, pcell0, c_impl_LeafOut, hA, hB, c_shift_zero]
          exact IH
    · simp (disch := omega) only [bindS, nth0, nth1, nth2, nth3, bit, cell0, cell1, cell2, cell3, cell4, cell5, cell6, cell7, cell8, cell9, cell10, cell11, cell12, cell13, cell14, cell15, cell16, cell17, cell18, cell19, cell20, cell21, cell22, cell23, toInt_int, toBool_bool, toStr_str, nil_arr, r3_arr, r4_arr, ints_arr, bools_arr, strs_arr, nI, condT, condF, Bool.not_true, Bool.not_false, Bool.and_true, Bool.true_and, Bool.and_false, Bool.false_and, Bool.or_true, Bool.true_or, Bool.or_false, Bool.false_or, beq_self_eq_true, dTT, dFF, dT, dF, bigI, big0, nilApp, wrapI, wrapU, List.length_set, List.length_replicate, Int.toNat_natCast, castS, castS2, imax, imin]
      rw [show i = l.length by omega, hm]
end Go.Proofs.Ytfgccfajhedgdaa
