/- The laws of cones and of influence answer true. -/
import Derived.Test.YtaoffhlajfkccaaXI
import Derived.Test.YtaoffhlajfkccaaPI
import Derived.Test.YtaoffhlajfkccaaPU
import Derived.Test.YtaoffhlajfkccaaPT
import Derived.Test.YtaoffhlajfkccaaPCU3
namespace Go.Proofs.Ytaoffhlajfkccaa
open Go.Ev
set_option linter.unusedVariables false
set_option linter.unusedSimpArgs false
set_option maxRecDepth 20000
theorem c_laws_bigI (k : Nat) (hk : 2000000 ≤ k) (z : Bool) (l : List Int) : go (k + 1) laws_big [.arr false z (.ints .u8 l)] = some [.bool (decide (1048576 < (l.length : Int)))] := by
  rw [e_laws_big]
theorem m_spec_DrawBalanced (k : Nat) (hk : 2000000 ≤ k) (fu : List (Nat × Nat)) (z : Bool) (l : List Int) (hl : (l.length : Int) ≤ 1048576) (z4 : Bool) (l5 : List Cell) (x6 : Int) :
    ∀ (n t : Nat) (h : Int), t ≤ l.length → l.length - t < n →
    ∃ (r : Int) (c : List Cell), lp (k + 10) spec_DrawBalanced [] fu 5700003 (n) (s_spec_DrawBalanced_5700003 h (t : Int) z l z4 l5 x6) = some [.agg [.int .i64 r, .arr true false (.r3 c)]] ∧ meshGo r 0 c = true ∧ unb c < 0 ∧ r ≤ 3
  | 0, t, h, ht, hn => by omega
  | n + 1, t, h, ht, hn => by
    have e := l_spec_DrawBalanced_5700003 (k + 10) n fu h (t : Int) z l z4 l5 x6
    obtain ⟨r, c, i1, h1, e1, p1, m1, u1, r3⟩ := c_spec_l05Mesh k (by omega) z l 0 h hl (by omega) (by omega)
    by_cases g : t < l.length
    · by_cases g2 : (t : Int) < 4000
      · simp (disch := omega) only [bindS, nth0, nth1, nth2, nth3, bit, cell0, cell1, cell2, cell3, cell4, cell5, cell6, cell7, cell8, cell9, cell10, cell11, cell12, cell13, cell14, cell15, cell16, cell17, cell18, cell19, cell20, cell21, cell22, cell23, toInt_int, toBool_bool, toStr_str, nil_arr, r3_arr, r4_arr, ints_arr, bools_arr, strs_arr, nI, condT, condF, Bool.not_true, Bool.not_false, Bool.and_true, Bool.true_and, Bool.and_false, Bool.false_and, Bool.or_true, Bool.true_or, Bool.or_false, Bool.false_or, beq_self_eq_true, dTT, dFF, dT, dF, bigI, big0, nilApp, wrapI, wrapU, List.length_set, List.length_replicate, Int.toNat_natCast, castS, castS2, imax, imin] at e
        obtain ⟨r, c, e3, p3⟩ := m_spec_DrawBalanced k hk fu z l hl z4 l5 x6 n (t + 1) _ (by omega) (by omega)
        exact ⟨r, c, e.trans e3, p3⟩
      · simp (disch := omega) only [bindS, nth0, nth1, nth2, nth3, bit, cell0, cell1, cell2, cell3, cell4, cell5, cell6, cell7, cell8, cell9, cell10, cell11, cell12, cell13, cell14, cell15, cell16, cell17, cell18, cell19, cell20, cell21, cell22, cell23, toInt_int, toBool_bool, toStr_str, nil_arr, r3_arr, r4_arr, ints_arr, bools_arr, strs_arr, nI, condT, condF, Bool.not_true, Bool.not_false, Bool.and_true, Bool.true_and, Bool.and_false, Bool.false_and, Bool.or_true, Bool.true_or, Bool.or_false, Bool.false_or, beq_self_eq_true, dTT, dFF, dT, dF, bigI, big0, nilApp, wrapI, wrapU, List.length_set, List.length_replicate, Int.toNat_natCast, castS, castS2, imax, imin, e1, qcell0, qcell1, qcell2] at e
        exact ⟨_, _, e, m1, u1, r3⟩
    · simp (disch := omega) only [bindS, nth0, nth1, nth2, nth3, bit, cell0, cell1, cell2, cell3, cell4, cell5, cell6, cell7, cell8, cell9, cell10, cell11, cell12, cell13, cell14, cell15, cell16, cell17, cell18, cell19, cell20, cell21, cell22, cell23, toInt_int, toBool_bool, toStr_str, nil_arr, r3_arr, r4_arr, ints_arr, bools_arr, strs_arr, nI, condT, condF, Bool.not_true, Bool.not_false, Bool.and_true, Bool.true_and, Bool.and_false, Bool.false_and, Bool.or_true, Bool.true_or, Bool.or_false, Bool.false_or, beq_self_eq_true, dTT, dFF, dT, dF, bigI, big0, nilApp, wrapI, wrapU, List.length_set, List.length_replicate, Int.toNat_natCast, castS, castS2, imax, imin, e1, qcell0, qcell1, qcell2] at e
      exact ⟨_, _, e, m1, u1, r3⟩
theorem c_spec_DrawBalanced (k : Nat) (hk : 2000000 ≤ k) (z : Bool) (l : List Int) (hl : (l.length : Int) ≤ 1048576) :
    ∃ (r : Int) (c : List Cell), go (k + 11) spec_DrawBalanced [.arr false z (.ints .u8 l)] = some [.agg [.int .i64 r, .arr true false (.r3 c)]] ∧ meshGo r 0 c = true ∧ unb c < 0 ∧ r ≤ 3 := by
  have e := e_spec_DrawBalanced (k + 10) z l
  obtain ⟨r, c, e3, p3⟩ := m_spec_DrawBalanced k hk [] z l hl true [] 0 (k + 10) 0 (IntKind.wrap .i64 (98231 + nI l.length)) (by omega) (by omega)
  rw [show ((0 : Nat) : Int) = 0 from rfl] at e3
  exact ⟨r, c, e.trans e3, p3⟩
theorem c_impl_SafeDistance (k : Nat) (hk : 2000000 ≤ k) (a0 : Int) (z : Bool) (a1 : List Cell) (b : Int) (h : meshGo a0 0 a1 = true) (h0 : 0 ≤ b) (h1 : b ≤ 100000) : go (k + 7) impl_SafeDistance [.agg [.int .i64 a0, .arr false z (.r3 a1)], .int .i64 b] = some [.int .i64 (min ((b + 15) / 16 * 32) 128)] := by
  rw [e_impl_SafeDistance]
  have ml := mesh_len h
  have hb : inR b 0 100000 = true := inR_iff.2 ⟨h0, h1⟩
  have e1 : Int.tdiv (b + 16 - 1) 16 = (b + 15) / 16 := by rw [Int.tdiv_eq_ediv_of_nonneg (by omega)]; omega
  simp (disch := omega) only [bindS, nth0, nth1, nth2, nth3, bit, cell0, cell1, cell2, cell3, cell4, cell5, cell6, cell7, cell8, cell9, cell10, cell11, cell12, cell13, cell14, cell15, cell16, cell17, cell18, cell19, cell20, cell21, cell22, cell23, toInt_int, toBool_bool, toStr_str, nil_arr, r3_arr, r4_arr, ints_arr, bools_arr, strs_arr, nI, condT, condF, Bool.not_true, Bool.not_false, Bool.and_true, Bool.true_and, Bool.and_false, Bool.false_and, Bool.or_true, Bool.true_or, Bool.or_false, Bool.false_or, beq_self_eq_true, dTT, dFF, dT, dF, bigI, big0, nilApp, wrapI, wrapU, List.length_set, List.length_replicate, Int.toNat_natCast, castS, castS2, imax, imin, c_impl_MeshOk, h, c_impl_within, hb]
  rw [e1]
  have p16 : (2 : Int) ^ (4 : Nat) = 16 := by decide
  simp (disch := omega) only [bindS, nth0, nth1, nth2, nth3, bit, cell0, cell1, cell2, cell3, cell4, cell5, cell6, cell7, cell8, cell9, cell10, cell11, cell12, cell13, cell14, cell15, cell16, cell17, cell18, cell19, cell20, cell21, cell22, cell23, toInt_int, toBool_bool, toStr_str, nil_arr, r3_arr, r4_arr, ints_arr, bools_arr, strs_arr, nI, condT, condF, Bool.not_true, Bool.not_false, Bool.and_true, Bool.true_and, Bool.and_false, Bool.false_and, Bool.or_true, Bool.true_or, Bool.or_false, Bool.false_or, beq_self_eq_true, dTT, dFF, dT, dF, bigI, big0, nilApp, wrapI, wrapU, List.length_set, List.length_replicate, Int.toNat_natCast, castS, castS2, imax, imin, sh4, p16]
  rw [show (b + 15) / 16 * 2 * 16 = (b + 15) / 16 * 32 by omega]
theorem m_laws_FnCones (k : Nat) (hk : 2000000 ≤ k) (fu : List (Nat × Nat)) (i n : Nat) (a b d : Int) (z6 : Bool) (l7 : List Cell) (x8 : Int) (z9 : Bool) (set : List Bool) (hs : set.length = l7.length) (hl : (l7.length : Int) ≤ 1048576) (hi : i < l7.length) (hn' : n ≤ 100000) (hd0 : 0 ≤ d) (hd1 : d ≤ 1048576)
    (h : ∀ j, has set j → i ≤ j + n ∧ j ≤ i + 2 * n ∧ (j : Int) - i ≤ d ∧ (i : Int) - j ≤ d) (ha : 1 ≤ a) (hab : a ≤ b) (h0 : n = 0 → a = 1) : ∀ (N q : Nat), q ≤ l7.length → l7.length - q < N →
    lp (k + 11) laws_FnCones [] fu 12 (N) (s_laws_FnCones_12 (i : Int) (n : Int) a b d (q : Int) z6 l7 x8 z9 set) = some [.bool true]
  | 0, q, hq, hN => by omega
  | N + 1, q, hq, hN => by
    rw [l_laws_FnCones_12]
    by_cases g : q < l7.length
    · have IH := m_laws_FnCones k hk fu i n a b d z6 l7 x8 z9 set hs hl hi hn' hd0 hd1 h ha hab h0 N (q + 1) (by omega) (by omega)
      cases hq : set.getD q false
      · simp (disch := omega) only [bindS, nth0, nth1, nth2, nth3, bit, cell0, cell1, cell2, cell3, cell4, cell5, cell6, cell7, cell8, cell9, cell10, cell11, cell12, cell13, cell14, cell15, cell16, cell17, cell18, cell19, cell20, cell21, cell22, cell23, toInt_int, toBool_bool, toStr_str, nil_arr, r3_arr, r4_arr, ints_arr, bools_arr, strs_arr, nI, condT, condF, Bool.not_true, Bool.not_false, Bool.and_true, Bool.true_and, Bool.and_false, Bool.false_and, Bool.or_true, Bool.true_or, Bool.or_false, Bool.false_or, beq_self_eq_true, dTT, dFF, dT, dF, bigI, big0, nilApp, wrapI, wrapU, List.length_set, List.length_replicate, Int.toNat_natCast, castS, castS2, imax, imin, hq, IH]
      · have := h q hq
        simp (disch := omega) only [bindS, nth0, nth1, nth2, nth3, bit, cell0, cell1, cell2, cell3, cell4, cell5, cell6, cell7, cell8, cell9, cell10, cell11, cell12, cell13, cell14, cell15, cell16, cell17, cell18, cell19, cell20, cell21, cell22, cell23, toInt_int, toBool_bool, toStr_str, nil_arr, r3_arr, r4_arr, ints_arr, bools_arr, strs_arr, nI, condT, condF, Bool.not_true, Bool.not_false, Bool.and_true, Bool.true_and, Bool.and_false, Bool.false_and, Bool.or_true, Bool.true_or, Bool.or_false, Bool.false_or, beq_self_eq_true, dTT, dFF, dT, dF, bigI, big0, nilApp, wrapI, wrapU, List.length_set, List.length_replicate, Int.toNat_natCast, castS, castS2, imax, imin, hq, IH]
    · by_cases hn0 : 0 < n
      · simp (disch := omega) only [bindS, nth0, nth1, nth2, nth3, bit, cell0, cell1, cell2, cell3, cell4, cell5, cell6, cell7, cell8, cell9, cell10, cell11, cell12, cell13, cell14, cell15, cell16, cell17, cell18, cell19, cell20, cell21, cell22, cell23, toInt_int, toBool_bool, toStr_str, nil_arr, r3_arr, r4_arr, ints_arr, bools_arr, strs_arr, nI, condT, condF, Bool.not_true, Bool.not_false, Bool.and_true, Bool.true_and, Bool.and_false, Bool.false_and, Bool.or_true, Bool.true_or, Bool.or_false, Bool.false_or, beq_self_eq_true, dTT, dFF, dT, dF, bigI, big0, nilApp, wrapI, wrapU, List.length_set, List.length_replicate, Int.toNat_natCast, castS, castS2, imax, imin]
      · have := h0 (by omega)
        simp (disch := omega) only [bindS, nth0, nth1, nth2, nth3, bit, cell0, cell1, cell2, cell3, cell4, cell5, cell6, cell7, cell8, cell9, cell10, cell11, cell12, cell13, cell14, cell15, cell16, cell17, cell18, cell19, cell20, cell21, cell22, cell23, toInt_int, toBool_bool, toStr_str, nil_arr, r3_arr, r4_arr, ints_arr, bools_arr, strs_arr, nI, condT, condF, Bool.not_true, Bool.not_false, Bool.and_true, Bool.true_and, Bool.and_false, Bool.false_and, Bool.or_true, Bool.true_or, Bool.or_false, Bool.false_or, beq_self_eq_true, dTT, dFF, dT, dF, bigI, big0, nilApp, wrapI, wrapU, List.length_set, List.length_replicate, Int.toNat_natCast, castS, castS2, imax, imin]
theorem law_FnCones (k : Nat) (hk : 2000000 ≤ k) (az : Bool) (a : List Int) : go (k + 12) laws_FnCones [(.arr false (az) (.ints IntKind.u8 (a)))] = some [.bool true] := by
  by_cases h : 1048576 < (a.length : Int)
  · rw [e_laws_FnCones]; simp (disch := omega) only [bindS, nth0, nth1, nth2, nth3, bit, cell0, cell1, cell2, cell3, cell4, cell5, cell6, cell7, cell8, cell9, cell10, cell11, cell12, cell13, cell14, cell15, cell16, cell17, cell18, cell19, cell20, cell21, cell22, cell23, toInt_int, toBool_bool, toStr_str, nil_arr, r3_arr, r4_arr, ints_arr, bools_arr, strs_arr, nI, condT, condF, Bool.not_true, Bool.not_false, Bool.and_true, Bool.true_and, Bool.and_false, Bool.false_and, Bool.or_true, Bool.true_or, Bool.or_false, Bool.false_or, beq_self_eq_true, dTT, dFF, dT, dF, bigI, big0, nilApp, wrapI, wrapU, List.length_set, List.length_replicate, Int.toNat_natCast, castS, castS2, imax, imin, c_laws_bigI]
  have h : (a.length : Int) ≤ 1048576 := by omega
  obtain ⟨r, c, eD, hm, hu, hr⟩ := c_spec_DrawBalanced k (by omega) az a h
  obtain ⟨p, eP, hp, hpx⟩ := c_spec_DrawPlaces (k + 8) (by omega) az a h
  have ml := mesh_len hm
  have p0 := hpx _ (getD_mem (l := p) (i := 0) (by omega) 0)
  have p1 := hpx _ (getD_mem (l := p) (i := 1) (by omega) 0)
  have b0 := tmod_bd (v := p.getD 0 0) (b := (c.length : Int)) p0.1 (by omega)
  have b1 := tmod_bd (v := p.getD 1 0) (b := 20) p1.1 (by omega)
  obtain ⟨i, hi⟩ := Int.eq_ofNat_of_zero_le b0.1
  obtain ⟨n, hn⟩ := Int.eq_ofNat_of_zero_le b1.1
  rw [hi] at b0
  rw [hn] at b1
  have t1 : Int.toNat 1 = 1 := Eq.trans rfl rfl
  have rt : ∀ e : Int, 0 ≤ e → e ≤ 20 → reached r c (i : Int) 0 e = some (reach c 0 e.toNat ((List.replicate c.length false).set i true)) := fun e h0 h1 => by
    unfold reached
    rw [hm, show inR (i : Int) 0 ((c.length : Int) - 1) = true from inR_iff.2 (by omega), dT (p := (0 : Int) ≤ 0) (by omega), dT (p := (0 : Int) ≤ e) h0, dT (p := e - 0 ≤ 1000) (by omega)]
    simp
  have sl : ((List.replicate c.length false).set i true).length = c.length := by rw [List.length_set, List.length_replicate]
  have il : i < c.length := by omega
  have rA := rt n (by omega) (by omega)
  have rB := rt (n + 1) (by omega) (by omega)
  rw [show ((n : Nat) : Int).toNat = n from rfl] at rA
  rw [show ((n : Int) + 1).toNat = n + 1 by omega] at rB
  rw [e_laws_FnCones]
  simp (disch := omega) only [bindS, nth0, nth1, nth2, nth3, bit, cell0, cell1, cell2, cell3, cell4, cell5, cell6, cell7, cell8, cell9, cell10, cell11, cell12, cell13, cell14, cell15, cell16, cell17, cell18, cell19, cell20, cell21, cell22, cell23, toInt_int, toBool_bool, toStr_str, nil_arr, r3_arr, r4_arr, ints_arr, bools_arr, strs_arr, nI, condT, condF, Bool.not_true, Bool.not_false, Bool.and_true, Bool.true_and, Bool.and_false, Bool.false_and, Bool.or_true, Bool.true_or, Bool.or_false, Bool.false_or, beq_self_eq_true, dTT, dFF, dT, dF, bigI, big0, nilApp, wrapI, wrapU, List.length_set, List.length_replicate, Int.toNat_natCast, castS, castS2, imax, imin, c_laws_bigI, eD, eP, ton0, t1, hi, hn]
  have eA := c_impl_ConeWidth (k + 3) (by omega) r false c (i : Int) (n : Int) (by omega) (by omega)
  have eB := c_impl_ConeWidth (k + 3) (by omega) r false c (i : Int) ((n : Int) + 1) (by omega) (by omega)
  have eR := c_impl_Reached (k + 4) (by omega) r false c (i : Int) 0 (n : Int) (by omega) (by omega) (by omega)
  rw [rA] at eA eR
  rw [rB] at eB
  simp only [Option.getD_some, Option.isNone_some] at eA eB eR
  have eS := c_impl_SafeDistance (k + 4) (by omega) r false c (n : Int) hm (by omega) (by omega)
  simp only [castS] at eB
  simp (disch := omega) only [bindS, nth0, nth1, nth2, nth3, bit, cell0, cell1, cell2, cell3, cell4, cell5, cell6, cell7, cell8, cell9, cell10, cell11, cell12, cell13, cell14, cell15, cell16, cell17, cell18, cell19, cell20, cell21, cell22, cell23, toInt_int, toBool_bool, toStr_str, nil_arr, r3_arr, r4_arr, ints_arr, bools_arr, strs_arr, nI, condT, condF, Bool.not_true, Bool.not_false, Bool.and_true, Bool.true_and, Bool.and_false, Bool.false_and, Bool.or_true, Bool.true_or, Bool.or_false, Bool.false_or, beq_self_eq_true, dTT, dFF, dT, dF, bigI, big0, nilApp, wrapI, wrapU, List.length_set, List.length_replicate, Int.toNat_natCast, castS, castS2, imax, imin, eA, eB, eR, eS]
  have rl := reach_length c 0 n ((List.replicate c.length false).set i true)
  rw [sl] at rl
  have rl' := reach_length c 0 (n + 1) ((List.replicate c.length false).set i true)
  rw [sl] at rl'
  have hs0 : has ((List.replicate c.length false).set i true) i := (start_has il i).2 rfl
  refine m_laws_FnCones k hk [] i n _ _ _ false c r false _ rl (by omega) il (by omega) (by omega) (by omega) (fun j hj => ?_) ?_ ?_ ?_ (k + 11) 0 (by omega) (by omega)
  · have := reach_bd c 0 i n _ 0 0 sl (fun q hq => by have := (start_has il q).1 hq; omega) j hj
    have jl := has_lt hj
    omega
  · exact countT_pos _ i (reach_self c 0 n _ sl i hs0)
  · refine countT_mono _ _ (by omega) fun j hj => ?_
    rw [reach, Int.zero_add]
    exact reach_mono c 0 n _ _ sl (by rw [widen_length]; exact sl) (fun q hq => widen_self sl hq) j hj
  · intro hn0
    subst hn0
    exact countT_one _ _ il
theorem c_spec_PutCell (k : Nat) (hk : 2000000 ≤ k) (r : Int) (l : List Cell) (m t b : List Int) (F : StF r l m t b) (i : Nat) (hi : i < m.length) (x y : Int) :
    ∃ (m' t' : List Int) (ok : Bool), go (k + 8) spec_PutCell [.agg [.int .i64 (r), .arr false (false) (.r3 (l)), .arr false (false) (.ints .i64 (m)), .arr false (false) (.ints .i64 (t)), .arr false (false) (.ints .i64 (b))], .int .i64 (i : Int), .int .i64 x, .int .i64 y] = some [.agg [.int .i64 (r), .arr true (false) (.r3 (l)), .arr true (false) (.ints .i64 (m')), .arr true (false) (.ints .i64 (t')), .arr true (false) (.ints .i64 (b))], .bool ok] ∧ StF r l m' t' b ∧ ∀ j, j ≠ i → m.getD j 0 = m'.getD j 0 ∧ t.getD j 0 = t'.getD j 0 := by
  have e := e_spec_PutCell (k + 7) r false l false m false t false b (i : Int) x y
  have := F.len; have := F.ml; have := F.tl; have := F.rr; have := F.bl
  have g := stF.2 F
  have hI : inR (i : Int) 0 ((m.length : Int) - 1) = true := inR_iff.2 (by omega)
  cases g2 : stOk r l (m.set i x) (t.set i y) b
  · simp (disch := omega) only [bindS, nth0, nth1, nth2, nth3, bit, cell0, cell1, cell2, cell3, cell4, cell5, cell6, cell7, cell8, cell9, cell10, cell11, cell12, cell13, cell14, cell15, cell16, cell17, cell18, cell19, cell20, cell21, cell22, cell23, toInt_int, toBool_bool, toStr_str, nil_arr, r3_arr, r4_arr, ints_arr, bools_arr, strs_arr, nI, condT, condF, Bool.not_true, Bool.not_false, Bool.and_true, Bool.true_and, Bool.and_false, Bool.false_and, Bool.or_true, Bool.true_or, Bool.or_false, Bool.false_or, beq_self_eq_true, dTT, dFF, dT, dF, bigI, big0, nilApp, wrapI, wrapU, List.length_set, List.length_replicate, Int.toNat_natCast, castS, castS2, imax, imin, c_spec_l07Copy, c_spec_StateOk, g, c_spec_l01In, hI, g2] at e
    exact ⟨m, t, _, e, F, fun j hj => ⟨rfl, rfl⟩⟩
  · simp (disch := omega) only [bindS, nth0, nth1, nth2, nth3, bit, cell0, cell1, cell2, cell3, cell4, cell5, cell6, cell7, cell8, cell9, cell10, cell11, cell12, cell13, cell14, cell15, cell16, cell17, cell18, cell19, cell20, cell21, cell22, cell23, toInt_int, toBool_bool, toStr_str, nil_arr, r3_arr, r4_arr, ints_arr, bools_arr, strs_arr, nI, condT, condF, Bool.not_true, Bool.not_false, Bool.and_true, Bool.true_and, Bool.and_false, Bool.false_and, Bool.or_true, Bool.true_or, Bool.or_false, Bool.false_or, beq_self_eq_true, dTT, dFF, dT, dF, bigI, big0, nilApp, wrapI, wrapU, List.length_set, List.length_replicate, Int.toNat_natCast, castS, castS2, imax, imin, c_spec_l07Copy, c_spec_StateOk, g, c_spec_l01In, hI, g2] at e
    refine ⟨m.set i x, t.set i y, _, e, stF.1 g2, fun j hj => ⟨?_, ?_⟩⟩
    · rw [set_getD, if_neg fun h => hj h.1.symm]
    · rw [set_getD, if_neg fun h => hj h.1.symm]
theorem agr_of : ∀ (s : List Bool) (m m' t t' : List Int), (∀ j, has s j → m.getD j 0 = m'.getD j 0 ∧ t.getD j 0 = t'.getD j 0) → agr s m m' t t' = true
  | s :: ss, m :: ms, m' :: ms', t :: ts, t' :: ts', h => by
    have IH := agr_of ss ms ms' ts ts' fun j hj => by have := h (j + 1) (by simpa [has] using hj); simpa using this
    have h0 := h 0
    simp only [has, List.getD_cons_zero] at h0
    simp only [agr, IH, Bool.and_true]
    cases s
    · rfl
    · have := h0 rfl; simp [this.1, this.2]
  | [], _, _, _, _, _ => by simp [agr]
  | _ :: _, [], _, _, _, _ => by simp [agr]
  | _ :: _, _ :: _, [], _, _, _ => by simp [agr]
  | _ :: _, _ :: _, _ :: _, [], _, _ => by simp [agr]
  | _ :: _, _ :: _, _ :: _, _ :: _, [], _ => by simp [agr]
theorem m_laws_FnInfluence (k : Nat) (hk : 2000000 ≤ k) (fu : List (Nat × Nat)) (i q n : Nat) (z4 : Bool) (set : List Bool) (r : Int) (l : List Cell) (m t b m' t' : List Int) (F : StF r l m t b) (F' : StF r l m' t' b) (hs : set.length = l.length) (hi : i < l.length) (hq : q < l.length) (hn8 : n ≤ 8)
    (H : set.getD q false = false → ∀ j, has (reach l 0 n ((List.replicate l.length false).set i true)) j → m.getD j 0 = m'.getD j 0 ∧ t.getD j 0 = t'.getD j 0) : ∀ (N j : Nat), j ≤ n → n - j < N →
    lp (k + 12) laws_FnInfluence [] fu 15 (N) (s_laws_FnInfluence_15 (i : Int) (q : Int) (n : Int) (j : Int) z4 set false l false (ticks l b j (m, t)).1 false (ticks l b j (m, t)).2 false b r false l false (ticks l b j (m', t')).1 false (ticks l b j (m', t')).2 false b r) = some [.bool true]
  | 0, j, hj, hN => by omega
  | N + 1, j, hj, hN => by
    rw [l_laws_FnInfluence_15]
    have S := ticks_StF F j; have S' := ticks_StF F' j
    have := F.len; have := F.rr; have := F.bl
    have := S.ml; have := S.tl; have := S'.ml; have := S'.tl
    by_cases g : j < n
    · have IH := m_laws_FnInfluence k hk fu i q n z4 set r l m t b m' t' F F' hs hi hq hn8 H N (j + 1) (by omega) (by omega)
      have g1 := stF.2 S; have g2 := stF.2 S'
      have hj0 : decide (0 ≤ (j : Int)) = true := dT (by omega)
      simp (disch := omega) only [bindS, nth0, nth1, nth2, nth3, bit, cell0, cell1, cell2, cell3, cell4, cell5, cell6, cell7, cell8, cell9, cell10, cell11, cell12, cell13, cell14, cell15, cell16, cell17, cell18, cell19, cell20, cell21, cell22, cell23, toInt_int, toBool_bool, toStr_str, nil_arr, r3_arr, r4_arr, ints_arr, bools_arr, strs_arr, nI, condT, condF, Bool.not_true, Bool.not_false, Bool.and_true, Bool.true_and, Bool.and_false, Bool.false_and, Bool.or_true, Bool.true_or, Bool.or_false, Bool.false_or, beq_self_eq_true, dTT, dFF, dT, dF, bigI, big0, nilApp, wrapI, wrapU, List.length_set, List.length_replicate, Int.toNat_natCast, castS, castS2, imax, imin, c_spec_StepState, g1, g2, hj0]
      exact IH
    · have hjn : j = n := by omega
      subst hjn
      cases hc : set.getD q false
      · have rl : (List.replicate set.length false).length = set.length := List.length_replicate
        have hA := ticks_agree F F' j ((List.replicate l.length false).set i true) (by rw [List.length_set, List.length_replicate]) (H hc)
        have ag : agree r l (ticks l b j (m, t)).1 (ticks l b j (m, t)).2 b r l (ticks l b j (m', t')).1 (ticks l b j (m', t')).2 b ((List.replicate l.length false).set i true) = true := by
          unfold agree sameM
          rw [stF.2 S, stF.2 S', agr_of _ _ _ _ _ hA, dT (p := ((List.replicate l.length false).set i true).length = _) (by rw [List.length_set, List.length_replicate]; omega)]
          simp
        simp (disch := omega) only [bindS, nth0, nth1, nth2, nth3, bit, cell0, cell1, cell2, cell3, cell4, cell5, cell6, cell7, cell8, cell9, cell10, cell11, cell12, cell13, cell14, cell15, cell16, cell17, cell18, cell19, cell20, cell21, cell22, cell23, toInt_int, toBool_bool, toStr_str, nil_arr, r3_arr, r4_arr, ints_arr, bools_arr, strs_arr, nI, condT, condF, Bool.not_true, Bool.not_false, Bool.and_true, Bool.true_and, Bool.and_false, Bool.false_and, Bool.or_true, Bool.true_or, Bool.or_false, Bool.false_or, beq_self_eq_true, dTT, dFF, dT, dF, bigI, big0, nilApp, wrapI, wrapU, List.length_set, List.length_replicate, Int.toNat_natCast, castS, castS2, imax, imin, hc, c_impl_Agree, hs, ag]
      · simp (disch := omega) only [bindS, nth0, nth1, nth2, nth3, bit, cell0, cell1, cell2, cell3, cell4, cell5, cell6, cell7, cell8, cell9, cell10, cell11, cell12, cell13, cell14, cell15, cell16, cell17, cell18, cell19, cell20, cell21, cell22, cell23, toInt_int, toBool_bool, toStr_str, nil_arr, r3_arr, r4_arr, ints_arr, bools_arr, strs_arr, nI, condT, condF, Bool.not_true, Bool.not_false, Bool.and_true, Bool.true_and, Bool.and_false, Bool.false_and, Bool.or_true, Bool.true_or, Bool.or_false, Bool.false_or, beq_self_eq_true, dTT, dFF, dT, dF, bigI, big0, nilApp, wrapI, wrapU, List.length_set, List.length_replicate, Int.toNat_natCast, castS, castS2, imax, imin, hc]
theorem law_FnInfluence (k : Nat) (hk : 2000000 ≤ k) (az : Bool) (a : List Int) : go (k + 13) laws_FnInfluence [(.arr false (az) (.ints IntKind.u8 (a)))] = some [.bool true] := by
  by_cases h : 1048576 < (a.length : Int)
  · rw [e_laws_FnInfluence]; simp (disch := omega) only [bindS, nth0, nth1, nth2, nth3, bit, cell0, cell1, cell2, cell3, cell4, cell5, cell6, cell7, cell8, cell9, cell10, cell11, cell12, cell13, cell14, cell15, cell16, cell17, cell18, cell19, cell20, cell21, cell22, cell23, toInt_int, toBool_bool, toStr_str, nil_arr, r3_arr, r4_arr, ints_arr, bools_arr, strs_arr, nI, condT, condF, Bool.not_true, Bool.not_false, Bool.and_true, Bool.true_and, Bool.and_false, Bool.false_and, Bool.or_true, Bool.true_or, Bool.or_false, Bool.false_or, beq_self_eq_true, dTT, dFF, dT, dF, bigI, big0, nilApp, wrapI, wrapU, List.length_set, List.length_replicate, Int.toNat_natCast, castS, castS2, imax, imin, c_laws_bigI]
  have h : (a.length : Int) ≤ 1048576 := by omega
  obtain ⟨r, l, m, t, b, eD, F, hr⟩ := c_spec_DrawState k (by omega) az a h
  obtain ⟨p, eP, hp, hpx⟩ := c_spec_DrawPlaces (k + 9) (by omega) az a h
  have := F.len; have := F.ml; have := F.tl; have := F.rr; have := F.bl
  have p0 := hpx _ (getD_mem (l := p) (i := 0) (by omega) 0)
  have p1 := hpx _ (getD_mem (l := p) (i := 1) (by omega) 0)
  have p2 := hpx _ (getD_mem (l := p) (i := 2) (by omega) 0)
  have p3 := hpx _ (getD_mem (l := p) (i := 3) (by omega) 0)
  have b0 := tmod_bd (v := p.getD 0 0) (b := (m.length : Int)) p0.1 (by omega)
  have b1 := tmod_bd (v := p.getD 1 0) (b := (m.length : Int)) p1.1 (by omega)
  have b2 := tmod_bd (v := p.getD 2 0) (b := 8) p2.1 (by omega)
  obtain ⟨i, hi⟩ := Int.eq_ofNat_of_zero_le b0.1
  obtain ⟨q, hq⟩ := Int.eq_ofNat_of_zero_le b1.1
  obtain ⟨n, hn⟩ := Int.eq_ofNat_of_zero_le b2.1
  rw [hi] at b0
  rw [hq] at b1
  rw [hn] at b2
  have t1 : Int.toNat 1 = 1 := Eq.trans rfl rfl
  have t2 : Int.toNat 2 = 2 := Eq.trans rfl rfl
  have t3 : Int.toNat 3 = 3 := Eq.trans rfl rfl
  have il : i < l.length := by omega
  have sl : ((List.replicate l.length false).set i true).length = l.length := by rw [List.length_set, List.length_replicate]
  have rA : reached r l (i : Int) 0 (n : Int) = some (reach l 0 n ((List.replicate l.length false).set i true)) := by
    unfold reached
    rw [F.mesh, show inR (i : Int) 0 ((l.length : Int) - 1) = true from inR_iff.2 (by omega), dT (p := (0 : Int) ≤ 0) (by omega), dT (p := (0 : Int) ≤ n) (by omega), dT (p := (n : Int) - 0 ≤ 1000) (by omega)]
    simp
  have eR := c_impl_Reached (k + 5) (by omega) r false l (i : Int) 0 (n : Int) (by omega) (by omega) (by omega)
  rw [rA] at eR
  simp only [Option.getD_some, Option.isNone_some] at eR
  have rl := reach_length l 0 n ((List.replicate l.length false).set i true)
  rw [sl] at rl
  have hs0 : (reach l 0 n ((List.replicate l.length false).set i true)).getD i false = true := reach_self l 0 n _ sl i ((start_has il i).2 rfl)
  have ma := F.at q
  obtain ⟨m', t', ok, eC, F', hF⟩ := c_spec_PutCell (k + 4) (by omega) r l m t b F q (by omega) (m.getD q 0 + 1 + p.getD 3 0) (t.getD q 0)
  rw [e_laws_FnInfluence]
  simp (disch := omega) only [bindS, nth0, nth1, nth2, nth3, bit, cell0, cell1, cell2, cell3, cell4, cell5, cell6, cell7, cell8, cell9, cell10, cell11, cell12, cell13, cell14, cell15, cell16, cell17, cell18, cell19, cell20, cell21, cell22, cell23, toInt_int, toBool_bool, toStr_str, nil_arr, r3_arr, r4_arr, ints_arr, bools_arr, strs_arr, nI, condT, condF, Bool.not_true, Bool.not_false, Bool.and_true, Bool.true_and, Bool.and_false, Bool.false_and, Bool.or_true, Bool.true_or, Bool.or_false, Bool.false_or, beq_self_eq_true, dTT, dFF, dT, dF, bigI, big0, nilApp, wrapI, wrapU, List.length_set, List.length_replicate, Int.toNat_natCast, castS, castS2, imax, imin, c_laws_bigI, eD, eP, ton0, t1, t2, t3, hi, hq, hn, eR, rl, hs0, eC]
  refine m_laws_FnInfluence k hk [] i q n false _ r l m t b m' t' F F' rl il (by omega) (by omega) (fun hc j hj => hF j fun e => ?_) (k + 12) 0 (by omega) (by omega)
  subst e
  unfold has at hj
  rw [hc] at hj; cases hj
end Go.Proofs.Ytaoffhlajfkccaa
