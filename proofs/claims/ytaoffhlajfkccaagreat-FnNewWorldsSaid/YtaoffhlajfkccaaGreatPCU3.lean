/- Cursor draws: states and places. -/
import Derived.Test.YtaoffhlajfkccaaGreatPCU2
import Derived.Test.YtaoffhlajfkccaaGreatPT2
namespace Go.Proofs.YtaoffhlajfkccaaGreat
open Go.Ev
set_option linter.unusedVariables false
set_option linter.unusedSimpArgs false
set_option maxRecDepth 20000
theorem massOk_one : ∀ (m t : List Int) (x y : Int), m.length = t.length → massOk m t = true → 0 ≤ x → x ≤ 10000000 → 0 ≤ y → y ≤ 1000 * x → massOk (m ++ [x]) (t ++ [y]) = true
  | [], [], x, y, _, _, h1, h2, h3, h4 => by simp only [List.nil_append, massOk, Bool.and_eq_true, inR_iff]; exact ⟨⟨h1, h2⟩, ⟨h3, h4⟩, trivial⟩
  | [], _ :: _, _, _, h, _, _, _, _, _ => by simp at h
  | _ :: _, [], _, _, h, _, _, _, _, _ => by simp at h
  | a :: m, b :: t, x, y, hl, h, h1, h2, h3, h4 => by
    simp only [List.cons_append, massOk, Bool.and_eq_true] at h ⊢
    exact ⟨h.1, h.2.1, massOk_one m t x y (by simpa using hl) h.2.2 h1 h2 h3 h4⟩
theorem bedOk_one : ∀ (a : List Int) (x : Int), bedOk a = true → 0 ≤ x → x ≤ 1000000 → bedOk (a ++ [x]) = true
  | [], x, _, h1, h2 => by simp only [List.nil_append, bedOk, Bool.and_eq_true, inR_iff]; exact ⟨⟨h1, h2⟩, trivial⟩
  | a :: l, x, h, h1, h2 => by
    simp only [List.cons_append, bedOk, Bool.and_eq_true] at h ⊢
    exact ⟨h.1, bedOk_one l x h.2 h1 h2⟩
theorem m_spec_l07State9 (k : Nat) (hk : 2000000 ≤ k) (fu : List (Nat × Nat)) (v0 : Bool) (v1 : List Int) (v2 v3 : Int) (x0 : Int) (hx : 1 ≤ x0) (hx' : x0 ≤ 20000) (z : Bool) (l : List Int) (hl : (l.length : Int) ≤ 1048576) (z6 : Bool) (l7 : List Cell) (z8 : Bool) (l9 : List Int) (z10 : Bool) (l11 : List Int) (z12 : Bool) (l13 : List Int) (x14 : Int) (c : List Cell) (hc : 1 ≤ c.length) (hc' : c.length ≤ 128) (x17 : Int) (bd : List Int) (r : Int) :
    ∀ (n t : Nat) (i h : Int) (zm zt : Bool) (m tr : List Int), t ≤ c.length → c.length - t < n → 0 ≤ i → i ≤ l.length → (zm = false ∨ t = 0) → (zt = false ∨ t = 0) → m.length = t → tr.length = t → massOk m tr = true → isum m ≤ 20000 * t →
    ∃ (m' t' : List Int) (i' h' : Int), lp (k + 10) spec_l07State [(.ptr true [(.arr false (v0) (.ints IntKind.u8 (v1))), (.int .i64 (v2)), (.int .i64 (v3))])] fu 9 (n) (s_spec_l07State_v1_9 x0 (t : Int) z l i h z6 l7 z8 l9 z10 l11 z12 l13 x14 false c x17 zm m zt tr false bd r) = some [.agg [.int .i64 (r), .arr true (false) (.r3 (c)), .arr true (false) (.ints .i64 (m')), .arr true (false) (.ints .i64 (t')), .arr true (false) (.ints .i64 (bd))], .ptr true [.arr false (z) (.ints .u8 (l)), .int .i64 (i'), .int .i64 (h')]] ∧ (0 ≤ i' ∧ i' ≤ l.length) ∧ m'.length = c.length ∧ t'.length = c.length ∧ massOk m' t' = true ∧ isum m' ≤ 10000000
  | 0, t, i, h, zm, zt, m, tr, ht, hn, h0, h1, hzm, hzt, lm, lt, ok, sm => by omega
  | n + 1, t, i, h, zm, zt, m, tr, ht, hn, h0, h1, hzm, hzt, lm, lt, ok, sm => by
    have e := l_spec_l07State_v1_9 (k + 10) n fu v0 v1 v2 v3 x0 (t : Int) z l i h z6 l7 z8 l9 z10 l11 z12 l13 x14 false c x17 zm m zt tr false bd r
    by_cases g : t < c.length
    · have la : ∀ x : Int, (m ++ [x]).length = t + 1 := fun x => by rw [List.length_append, lm]; rfl
      have lb : ∀ x : Int, (tr ++ [x]).length = t + 1 := fun x => by rw [List.length_append, lt]; rfl
      have step : ∀ (x y : Int), 0 ≤ x → x < 20000 → 0 ≤ y → y ≤ 1000 * x → ∀ (i2 k2 : Int), 0 ≤ i2 → i2 ≤ l.length → _ := fun x y hx0 hx1 hy0 hy1 i2 k2 hi0 hi1 =>
        m_spec_l07State9 k hk fu v0 v1 v2 v3 x0 hx hx' z l hl z6 l7 z8 l9 z10 l11 z12 l13 x14 c hc hc' x17 bd r n (t + 1) i2 k2 false false (m ++ [x]) (tr ++ [y]) (by omega) (by omega) hi0 hi1 (Or.inl rfl) (Or.inl rfl) (la x) (lb y) (massOk_one m tr x y (by omega) ok (by omega) (by omega) hy0 hy1) (by rw [isum_append]; simp only [isum]; omega)
      obtain ⟨u1, i1, k1, e1, b1, q1, r1⟩ := c_spec_l01Below (k + 8) (by omega) z l i h x0 hl h0 h1 hx (by omega)
      obtain ⟨u2, i2, k2, e2, q2, r2⟩ := c_spec_l01Once (k + 7) (by omega) z l i1 k1 6 hl q1 r1 (by omega) (by omega)
      cases u2
      · obtain ⟨u3, i3, k3, e3, b3, q3, r3⟩ := c_spec_l01Below (k + 8) (by omega) z l i2 k2 200 hl q2 r2 (by omega) (by omega)
        obtain ⟨u4, i4, k4, e4, b4, q4, r4⟩ := c_spec_l01Below (k + 8) (by omega) z l i3 k3 (u1 + 1) hl q3 r3 (by omega) (by omega)
        have p0 : 0 ≤ u1 * u3 := Int.mul_nonneg b1.1 b3.1
        have p1 : u1 * u3 ≤ u1 * 199 := Int.mul_le_mul_of_nonneg_left (by omega) b1.1
        obtain ⟨m', t', i', h', e5, p5⟩ := step u1 (u1 * u3 + u4) (by omega) (by omega) (by omega) (by omega) i4 k4 q4 r4
        simp (disch := omega) only [bindS, nth0, nth1, nth2, nth3, bit, cell0, cell1, cell2, cell3, cell4, cell5, cell6, cell7, cell8, cell9, cell10, cell11, cell12, cell13, cell14, cell15, cell16, cell17, cell18, cell19, cell20, cell21, cell22, cell23, toInt_int, toBool_bool, toStr_str, nil_arr, r3_arr, r4_arr, ints_arr, bools_arr, strs_arr, nI, condT, condF, Bool.not_true, Bool.not_false, Bool.and_true, Bool.true_and, Bool.and_false, Bool.false_and, Bool.or_true, Bool.true_or, Bool.or_false, Bool.false_or, beq_self_eq_true, dTT, dFF, dT, dF, bigI, big0, nilApp, wrapI, wrapU, List.length_set, List.length_replicate, Int.toNat_natCast, castS, castS2, imax, imin, e1, qcell0, qcell1, qcell2, e2, e3, e4, la, lb, e5] at e
        exact ⟨m', t', i', h', e, p5⟩
      · obtain ⟨u0, i0, k0, e0, b0, q0, r0⟩ := c_spec_l01Below (k + 8) (by omega) z l i2 k2 3 hl q2 r2 (by omega) (by omega)
        obtain ⟨u3, i3, k3, e3, b3, q3, r3⟩ := c_spec_l01Below (k + 8) (by omega) z l i0 k0 200 hl q0 r0 (by omega) (by omega)
        obtain ⟨u4, i4, k4, e4, b4, q4, r4⟩ := c_spec_l01Below (k + 8) (by omega) z l i3 k3 (u0 + 1) hl q3 r3 (by omega) (by omega)
        have p0 : 0 ≤ u0 * u3 := Int.mul_nonneg b0.1 b3.1
        have p1 : u0 * u3 ≤ u0 * 199 := Int.mul_le_mul_of_nonneg_left (by omega) b0.1
        obtain ⟨m', t', i', h', e5, p5⟩ := step u0 (u0 * u3 + u4) (by omega) (by omega) (by omega) (by omega) i4 k4 q4 r4
        simp (disch := omega) only [bindS, nth0, nth1, nth2, nth3, bit, cell0, cell1, cell2, cell3, cell4, cell5, cell6, cell7, cell8, cell9, cell10, cell11, cell12, cell13, cell14, cell15, cell16, cell17, cell18, cell19, cell20, cell21, cell22, cell23, toInt_int, toBool_bool, toStr_str, nil_arr, r3_arr, r4_arr, ints_arr, bools_arr, strs_arr, nI, condT, condF, Bool.not_true, Bool.not_false, Bool.and_true, Bool.true_and, Bool.and_false, Bool.false_and, Bool.or_true, Bool.true_or, Bool.or_false, Bool.false_or, beq_self_eq_true, dTT, dFF, dT, dF, bigI, big0, nilApp, wrapI, wrapU, List.length_set, List.length_replicate, Int.toNat_natCast, castS, castS2, imax, imin, e1, qcell0, qcell1, qcell2, e2, e0, e3, e4, la, lb, e5] at e
        exact ⟨m', t', i', h', e, p5⟩
    · have : zm = false := by rcases hzm with h | h <;> omega
      subst this
      have : zt = false := by rcases hzt with h | h <;> omega
      subst this
      simp (disch := omega) only [bindS, nth0, nth1, nth2, nth3, bit, cell0, cell1, cell2, cell3, cell4, cell5, cell6, cell7, cell8, cell9, cell10, cell11, cell12, cell13, cell14, cell15, cell16, cell17, cell18, cell19, cell20, cell21, cell22, cell23, toInt_int, toBool_bool, toStr_str, nil_arr, r3_arr, r4_arr, ints_arr, bools_arr, strs_arr, nI, condT, condF, Bool.not_true, Bool.not_false, Bool.and_true, Bool.true_and, Bool.and_false, Bool.false_and, Bool.or_true, Bool.true_or, Bool.or_false, Bool.false_or, beq_self_eq_true, dTT, dFF, dT, dF, bigI, big0, nilApp, wrapI, wrapU, List.length_set, List.length_replicate, Int.toNat_natCast, castS, castS2, imax, imin] at e
      exact ⟨m, tr, i, h, e, ⟨h0, h1⟩, by omega, by omega, ok, by omega⟩
theorem m_spec_l07State4 (k : Nat) (hk : 2000000 ≤ k) (fu : List (Nat × Nat)) (v0 : Bool) (v1 : List Int) (v2 v3 : Int) (z : Bool) (l : List Int) (hl : (l.length : Int) ≤ 1048576) (z6 : Bool) (l7 : List Cell) (z8 : Bool) (l9 : List Int) (z10 : Bool) (l11 : List Int) (z12 : Bool) (l13 : List Int) (x14 : Int) (c : List Cell) (R : Nat) (hR : 1 ≤ R) (hR' : R ≤ 3) (hm : meshGo R 0 c = true) (hu : unb c < 0) :
    ∀ (n t : Nat) (i h : Int) (zb : Bool) (bd : List Int), t ≤ R → R - t < n → 0 ≤ i → i ≤ l.length → (zb = false ∨ t = 0) → bd.length = t → bedOk bd = true →
    ∃ (m' t' bd' : List Int) (i' h' : Int), lp (k + 10) spec_l07State [(.ptr true [(.arr false (v0) (.ints IntKind.u8 (v1))), (.int .i64 (v2)), (.int .i64 (v3))])] fu 4 (n) (s_spec_l07State_v1_4 (t : Int) z l i h z6 l7 z8 l9 z10 l11 z12 l13 x14 false c (R : Int) true [] true [] zb bd (R : Int)) = some [.agg [.int .i64 ((R : Int)), .arr true (false) (.r3 (c)), .arr true (false) (.ints .i64 (m')), .arr true (false) (.ints .i64 (t')), .arr true (false) (.ints .i64 (bd'))], .ptr true [.arr false (z) (.ints .u8 (l)), .int .i64 (i'), .int .i64 (h')]] ∧ (0 ≤ i' ∧ i' ≤ l.length) ∧ StF (R : Int) c m' t' bd'
  | 0, t, i, h, zb, bd, ht, hn, h0, h1, hz, lb, ok => by omega
  | n + 1, t, i, h, zb, bd, ht, hn, h0, h1, hz, lb, ok => by
    have e := l_spec_l07State_v1_4 (k + 10) n fu v0 v1 v2 v3 (t : Int) z l i h z6 l7 z8 l9 z10 l11 z12 l13 x14 false c (R : Int) true [] true [] zb bd (R : Int)
    by_cases g : t < R
    · have la : ∀ x : Int, (bd ++ [x]).length = t + 1 := fun x => by rw [List.length_append, lb]; rfl
      obtain ⟨u1, i1, k1, e1, b1, q1, r1⟩ := c_spec_l01Below (k + 8) (by omega) z l i h 4 hl h0 h1 (by omega) (by omega)
      obtain ⟨u2, i2, k2, e2, b2, q2, r2⟩ := c_spec_l01Below (k + 8) (by omega) z l i1 k1 5000 hl q1 r1 (by omega) (by omega)
      have p0 : 0 ≤ u1 * u2 := Int.mul_nonneg b1.1 b2.1
      have p1 : u1 * u2 ≤ u1 * 4999 := Int.mul_le_mul_of_nonneg_left (by omega) b1.1
      obtain ⟨m', t', bd', i', h', e5, p5⟩ := m_spec_l07State4 k hk fu v0 v1 v2 v3 z l hl z6 l7 z8 l9 z10 l11 z12 l13 x14 c R hR hR' hm hu n (t + 1) i2 k2 false (bd ++ [u1 * u2]) (by omega) (by omega) q2 r2 (Or.inl rfl) (la _) (bedOk_one bd _ ok p0 (by omega))
      simp (disch := omega) only [bindS, nth0, nth1, nth2, nth3, bit, cell0, cell1, cell2, cell3, cell4, cell5, cell6, cell7, cell8, cell9, cell10, cell11, cell12, cell13, cell14, cell15, cell16, cell17, cell18, cell19, cell20, cell21, cell22, cell23, toInt_int, toBool_bool, toStr_str, nil_arr, r3_arr, r4_arr, ints_arr, bools_arr, strs_arr, nI, condT, condF, Bool.not_true, Bool.not_false, Bool.and_true, Bool.true_and, Bool.and_false, Bool.false_and, Bool.or_true, Bool.true_or, Bool.or_false, Bool.false_or, beq_self_eq_true, dTT, dFF, dT, dF, bigI, big0, nilApp, wrapI, wrapU, List.length_set, List.length_replicate, Int.toNat_natCast, castS, castS2, imax, imin, e1, qcell0, qcell1, qcell2, e2, la, e5] at e
      exact ⟨m', t', bd', i', h', e, p5⟩
    · have : zb = false := by rcases hz with h | h <;> omega
      subst this
      obtain ⟨u1, i1, k1, e1, b1, q1, r1⟩ := c_spec_l01Below (k + 8) (by omega) z l i h 20000 hl h0 h1 (by omega) (by omega)
      have ml := mesh_len hm
      obtain ⟨m', t', i', h', e5, p5, lm, lt, mk, sm⟩ := m_spec_l07State9 k hk fu v0 v1 v2 v3 (1 + u1) (by omega) (by omega) z l hl z6 l7 z8 l9 z10 l11 z12 l13 x14 c ml.1 ml.2 (R : Int) bd (R : Int) (k + 10) 0 i1 k1 true true [] [] (by omega) (by omega) q1 r1 (Or.inr rfl) (Or.inr rfl) rfl rfl rfl (by simp [isum])
      rw [show ((0 : Nat) : Int) = 0 from rfl] at e5
      simp (disch := omega) only [bindS, nth0, nth1, nth2, nth3, bit, cell0, cell1, cell2, cell3, cell4, cell5, cell6, cell7, cell8, cell9, cell10, cell11, cell12, cell13, cell14, cell15, cell16, cell17, cell18, cell19, cell20, cell21, cell22, cell23, toInt_int, toBool_bool, toStr_str, nil_arr, r3_arr, r4_arr, ints_arr, bools_arr, strs_arr, nI, condT, condF, Bool.not_true, Bool.not_false, Bool.and_true, Bool.true_and, Bool.and_false, Bool.false_and, Bool.or_true, Bool.true_or, Bool.or_false, Bool.false_or, beq_self_eq_true, dTT, dFF, dT, dF, bigI, big0, nilApp, wrapI, wrapU, List.length_set, List.length_replicate, Int.toNat_natCast, castS, castS2, imax, imin, e1, qcell0, qcell1, qcell2, e5] at e
      exact ⟨m', t', bd, i', h', e, p5, ⟨hm, hu, lm, lt, by omega, mk, ok, sm⟩⟩
theorem c_spec_l07State (k : Nat) (hk : 2000000 ≤ k) (z : Bool) (l : List Int) (i h : Int) (hl : (l.length : Int) ≤ 1048576) (h0 : 0 ≤ i) (h1 : i ≤ l.length) :
    ∃ (r : Int) (c : List Cell) (m t b : List Int) (i' h' : Int), go (k + 11) spec_l07State [.ptr true [.arr false (z) (.ints .u8 (l)), .int .i64 (i), .int .i64 (h)]] = some [.agg [.int .i64 (r), .arr true (false) (.r3 (c)), .arr true (false) (.ints .i64 (m)), .arr true (false) (.ints .i64 (t)), .arr true (false) (.ints .i64 (b))], .ptr true [.arr false (z) (.ints .u8 (l)), .int .i64 (i'), .int .i64 (h')]] ∧ (0 ≤ i' ∧ i' ≤ l.length) ∧ StF r c m t b ∧ r ≤ 3 := by
  have e := e_spec_l07State_v1 (k + 10) z l i h
  obtain ⟨r, c, i1, k1, e1, q1, hm, hu, r3⟩ := c_spec_l05Mesh k (by omega) z l i h hl h0 h1
  have rr := (mesh_facts _ _ _ hm).1
  obtain ⟨R, rfl⟩ : ∃ R : Nat, r = (R : Int) := ⟨r.toNat, by omega⟩
  obtain ⟨m', t', bd', i', h', e5, p5, S⟩ := m_spec_l07State4 k hk [] z l i h z l hl true [] true [] true [] true [] 0 c R (by omega) (by omega) hm hu (k + 10) 0 i1 k1 true [] (by omega) (by omega) q1.1 q1.2 (Or.inr rfl) rfl rfl
  rw [show ((0 : Nat) : Int) = 0 from rfl] at e5
  simp (disch := omega) only [bindS, nth0, nth1, nth2, nth3, bit, cell0, cell1, cell2, cell3, cell4, cell5, cell6, cell7, cell8, cell9, cell10, cell11, cell12, cell13, cell14, cell15, cell16, cell17, cell18, cell19, cell20, cell21, cell22, cell23, toInt_int, toBool_bool, toStr_str, nil_arr, r3_arr, r4_arr, ints_arr, bools_arr, strs_arr, nI, condT, condF, Bool.not_true, Bool.not_false, Bool.and_true, Bool.true_and, Bool.and_false, Bool.false_and, Bool.or_true, Bool.true_or, Bool.or_false, Bool.false_or, beq_self_eq_true, dTT, dFF, dT, dF, bigI, big0, nilApp, wrapI, wrapU, List.length_set, List.length_replicate, Int.toNat_natCast, castS, castS2, imax, imin, e1, qcell0, qcell1, qcell2, e5] at e
  exact ⟨_, _, _, _, _, _, _, e, p5, S, r3⟩
theorem m_spec_DrawState (k : Nat) (hk : 2000000 ≤ k) (fu : List (Nat × Nat)) (z : Bool) (l : List Int) (hl : (l.length : Int) ≤ 1048576) (z4 : Bool) (l5 : List Cell) (z6 : Bool) (l7 : List Int) (z8 : Bool) (l9 : List Int) (z10 : Bool) (l11 : List Int) (x12 : Int) :
    ∀ (n t : Nat) (h : Int), t ≤ l.length → l.length - t < n →
    ∃ (r : Int) (c : List Cell) (m t' b : List Int), lp (k + 11) spec_DrawState [] fu 2800003 (n) (s_spec_DrawState_2800003 h (t : Int) z l z4 l5 z6 l7 z8 l9 z10 l11 x12) = some [.agg [.int .i64 (r), .arr true (false) (.r3 (c)), .arr true (false) (.ints .i64 (m)), .arr true (false) (.ints .i64 (t')), .arr true (false) (.ints .i64 (b))]] ∧ StF r c m t' b ∧ r ≤ 3
  | 0, t, h, ht, hn => by omega
  | n + 1, t, h, ht, hn => by
    have e := l_spec_DrawState_2800003 (k + 11) n fu h (t : Int) z l z4 l5 z6 l7 z8 l9 z10 l11 x12
    obtain ⟨r, c, m, t', b, i1, h1, e1, p1, S1, r3⟩ := c_spec_l07State k (by omega) z l 0 h hl (by omega) (by omega)
    by_cases g : t < l.length
    · by_cases g2 : (t : Int) < 4000
      · simp (disch := omega) only [bindS, nth0, nth1, nth2, nth3, bit, cell0, cell1, cell2, cell3, cell4, cell5, cell6, cell7, cell8, cell9, cell10, cell11, cell12, cell13, cell14, cell15, cell16, cell17, cell18, cell19, cell20, cell21, cell22, cell23, toInt_int, toBool_bool, toStr_str, nil_arr, r3_arr, r4_arr, ints_arr, bools_arr, strs_arr, nI, condT, condF, Bool.not_true, Bool.not_false, Bool.and_true, Bool.true_and, Bool.and_false, Bool.false_and, Bool.or_true, Bool.true_or, Bool.or_false, Bool.false_or, beq_self_eq_true, dTT, dFF, dT, dF, bigI, big0, nilApp, wrapI, wrapU, List.length_set, List.length_replicate, Int.toNat_natCast, castS, castS2, imax, imin] at e
        obtain ⟨r, c, m, t', b, e3, p3⟩ := m_spec_DrawState k hk fu z l hl z4 l5 z6 l7 z8 l9 z10 l11 x12 n (t + 1) _ (by omega) (by omega)
        exact ⟨r, c, m, t', b, e.trans e3, p3⟩
      · simp (disch := omega) only [bindS, nth0, nth1, nth2, nth3, bit, cell0, cell1, cell2, cell3, cell4, cell5, cell6, cell7, cell8, cell9, cell10, cell11, cell12, cell13, cell14, cell15, cell16, cell17, cell18, cell19, cell20, cell21, cell22, cell23, toInt_int, toBool_bool, toStr_str, nil_arr, r3_arr, r4_arr, ints_arr, bools_arr, strs_arr, nI, condT, condF, Bool.not_true, Bool.not_false, Bool.and_true, Bool.true_and, Bool.and_false, Bool.false_and, Bool.or_true, Bool.true_or, Bool.or_false, Bool.false_or, beq_self_eq_true, dTT, dFF, dT, dF, bigI, big0, nilApp, wrapI, wrapU, List.length_set, List.length_replicate, Int.toNat_natCast, castS, castS2, imax, imin, e1, qcell0, qcell1, qcell2] at e
        exact ⟨_, _, _, _, _, e, S1, r3⟩
    · simp (disch := omega) only [bindS, nth0, nth1, nth2, nth3, bit, cell0, cell1, cell2, cell3, cell4, cell5, cell6, cell7, cell8, cell9, cell10, cell11, cell12, cell13, cell14, cell15, cell16, cell17, cell18, cell19, cell20, cell21, cell22, cell23, toInt_int, toBool_bool, toStr_str, nil_arr, r3_arr, r4_arr, ints_arr, bools_arr, strs_arr, nI, condT, condF, Bool.not_true, Bool.not_false, Bool.and_true, Bool.true_and, Bool.and_false, Bool.false_and, Bool.or_true, Bool.true_or, Bool.or_false, Bool.false_or, beq_self_eq_true, dTT, dFF, dT, dF, bigI, big0, nilApp, wrapI, wrapU, List.length_set, List.length_replicate, Int.toNat_natCast, castS, castS2, imax, imin, e1, qcell0, qcell1, qcell2] at e
      exact ⟨_, _, _, _, _, e, S1, r3⟩
theorem c_spec_DrawState (k : Nat) (hk : 2000000 ≤ k) (z : Bool) (l : List Int) (hl : (l.length : Int) ≤ 1048576) :
    ∃ (r : Int) (c : List Cell) (m t b : List Int), go (k + 12) spec_DrawState [.arr false z (.ints .u8 l)] = some [.agg [.int .i64 (r), .arr true (false) (.r3 (c)), .arr true (false) (.ints .i64 (m)), .arr true (false) (.ints .i64 (t)), .arr true (false) (.ints .i64 (b))]] ∧ StF r c m t b ∧ r ≤ 3 := by
  have e := e_spec_DrawState (k + 11) z l
  obtain ⟨r, c, m, t, b, e3, p3⟩ := m_spec_DrawState k hk [] z l hl true [] true [] true [] true [] 0 (k + 11) 0 (IntKind.wrap .i64 (98231 + nI l.length)) (by omega) (by omega)
  rw [show ((0 : Nat) : Int) = 0 from rfl] at e3
  exact ⟨r, c, m, t, b, e.trans e3, p3⟩
def Places (p : List Int) : Prop := p.length = 12 ∧ ∀ x ∈ p, 0 ≤ x ∧ x < 10000
end Go.Proofs.YtaoffhlajfkccaaGreat
