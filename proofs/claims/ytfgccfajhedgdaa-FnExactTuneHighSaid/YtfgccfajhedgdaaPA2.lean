/- Splitting and merging leaves: both readings agree. -/
import Derived.Test.YtfgccfajhedgdaaXAD1
import Derived.Test.YtfgccfajhedgdaaPA1
import Derived.Test.YtfgccfajhedgdaaPMV
import Derived.Test.YtfgccfajhedgdaaPCU2
import Derived.Test.YtfgccfajhedgdaaRC
namespace Go.Proofs.Ytfgccfajhedgdaa
open Go.Ev
set_option linter.unusedVariables false
set_option linter.unusedSimpArgs false
set_option maxRecDepth 20000
theorem ucell3 (o : Bool) (d0 d1 d2 d3 : D) (l : List D) : (D.ptr o (d0 :: d1 :: d2 :: d3 :: l)).cell 3 = d3 := Eq.trans rfl rfl
theorem ucell4 (o : Bool) (d0 d1 d2 d3 d4 : D) (l : List D) : (D.ptr o (d0 :: d1 :: d2 :: d3 :: d4 :: l)).cell 4 = d4 := Eq.trans rfl rfl
theorem c_spec_SplitEven (k : Nat) (hk : 2000000 ≤ k) (a : Int) (h : 0 ≤ a) (h' : a ≤ 1000000000) : go (k + 1) spec_SplitEven [(.int .i64 (a))] = some [.int .i64 (hA a), .int .i64 (hB a)] := by
  rw [e_spec_SplitEven]
  have e : Int.tdiv a 2 = a / 2 := Int.tdiv_eq_ediv_of_nonneg h
  rw [e]
  simp (disch := omega) only [bindS, nth0, nth1, nth2, nth3, bit, cell0, cell1, cell2, cell3, cell4, cell5, cell6, cell7, cell8, cell9, cell10, cell11, cell12, cell13, cell14, cell15, cell16, cell17, cell18, cell19, cell20, cell21, cell22, cell23, toInt_int, toBool_bool, toStr_str, nil_arr, r3_arr, r4_arr, ints_arr, bools_arr, strs_arr, nI, condT, condF, Bool.not_true, Bool.not_false, Bool.and_true, Bool.true_and, Bool.and_false, Bool.false_and, Bool.or_true, Bool.true_or, Bool.or_false, Bool.false_or, beq_self_eq_true, dTT, dFF, dT, dF, bigI, big0, nilApp, wrapI, wrapU, List.length_set, List.length_replicate, Int.toNat_natCast, castS, castS2, imax, imin]
theorem c_impl_SplitEven (k : Nat) (hk : 2000000 ≤ k) (a : Int) (h : 0 ≤ a) (h' : a ≤ 1000000000) : go (k + 1) impl_SplitEven [(.int .i64 (a))] = some [.int .i64 (hA a), .int .i64 (hB a)] := by
  rw [e_impl_SplitEven]
  have e : Int.tdiv a 2 = a / 2 := Int.tdiv_eq_ediv_of_nonneg h
  rw [e]
  simp (disch := omega) only [bindS, nth0, nth1, nth2, nth3, bit, cell0, cell1, cell2, cell3, cell4, cell5, cell6, cell7, cell8, cell9, cell10, cell11, cell12, cell13, cell14, cell15, cell16, cell17, cell18, cell19, cell20, cell21, cell22, cell23, toInt_int, toBool_bool, toStr_str, nil_arr, r3_arr, r4_arr, ints_arr, bools_arr, strs_arr, nI, condT, condF, Bool.not_true, Bool.not_false, Bool.and_true, Bool.true_and, Bool.and_false, Bool.false_and, Bool.or_true, Bool.true_or, Bool.or_false, Bool.false_or, beq_self_eq_true, dTT, dFF, dT, dF, bigI, big0, nilApp, wrapI, wrapU, List.length_set, List.length_replicate, Int.toNat_natCast, castS, castS2, imax, imin]
theorem ton (i : Nat) : Int.toNat ((i : Nat) : Int) = i := Int.toNat_natCast i
theorem c_spec_l08Split (k : Nat) (hk : 2000000 ≤ k) (r : Int) (s : S3) (b : List Int) (U : StU r s b) (i : Nat) (hi : i < s.1.length) (hv : levAt s.1 i < 4) :
    go (k + 5) spec_l08Split [.agg [.int .i64 (r), .arr false (false) (.r3 (s.1)), .arr false (false) (.ints .i64 (s.2.1)), .arr false (false) (.ints .i64 (s.2.2)), .arr false (false) (.ints .i64 (b))], .int .i64 (i : Int)] = some [.agg [.int .i64 (r), .arr true (false) (.r3 ((rfS s i).1)), .arr true (false) (.ints .i64 ((rfS s i).2.1)), .arr true (false) (.ints .i64 ((rfS s i).2.2)), .arr true (false) (.ints .i64 (b))]] := by
  obtain ⟨l, m, t⟩ := s
  simp only at hi hv ⊢
  rw [e_spec_l08Split]
  have L := U.len; have ml : m.length = l.length := U.ml; have tl : t.length = l.length := U.tl; have bl := U.bl; have rr := U.rr
  have a : 0 ≤ m.getD i 0 ∧ m.getD i 0 ≤ 10000000 ∧ 0 ≤ t.getD i 0 ∧ t.getD i 0 ≤ 1000 * m.getD i 0 := U.at i
  simp only at L
  have q := hAB a.1
  have sh := shr_le ⟨a.1, a.2.1⟩ ⟨a.2.2.1, a.2.2.2⟩
  simp only [shr] at sh
  have m1 : (m.take i).length = i := by rw [List.length_take]; omega
  have t1 : (t.take i).length = i := by rw [List.length_take]; omega
  have l2 : ∀ (x : List Int) (p q : Int), x.length = i → (x ++ [p, q]).length = i + 2 := fun x p q h => by rw [List.length_append, h]; rfl
  have m2 := fun p q => l2 (m.take i) p q m1
  have t2 := fun p q => l2 (t.take i) p q t1
  have m3 : ∀ p q : Int, (m.take i ++ [p, q] ++ m.drop (i + 1)).length = l.length + 1 := fun p q => by rw [List.length_append, m2, List.length_drop]; omega
  have t3 : ∀ p q : Int, (t.take i ++ [p, q] ++ t.drop (i + 1)).length = l.length + 1 := fun p q => by rw [List.length_append, t2, List.length_drop]; omega
  have cS := c_spec_l05Split k (by omega) r false l i (by omega) hi (U.id hi) hv
  simp (disch := omega) only [bindS, nth0, nth1, nth2, nth3, bit, cell0, cell1, cell2, cell3, cell4, cell5, cell6, cell7, cell8, cell9, cell10, cell11, cell12, cell13, cell14, cell15, cell16, cell17, cell18, cell19, cell20, cell21, cell22, cell23, toInt_int, toBool_bool, toStr_str, nil_arr, r3_arr, r4_arr, ints_arr, bools_arr, strs_arr, nI, condT, condF, Bool.not_true, Bool.not_false, Bool.and_true, Bool.true_and, Bool.and_false, Bool.false_and, Bool.or_true, Bool.true_or, Bool.or_false, Bool.false_or, beq_self_eq_true, dTT, dFF, dT, dF, bigI, big0, nilApp, wrapI, wrapU, List.length_set, List.length_replicate, Int.toNat_natCast, castS, castS2, imax, imin, c_spec_SplitEven, c_spec_ShareOut, cS, ton0, Nat.sub_zero, Nat.zero_add, List.drop_zero, takeDrop', m1, t1, m2, t2, m3, t3]
  rw [List.append_assoc, List.append_assoc]
  rfl
theorem c_impl_Mesh_refine (k : Nat) (hk : 2000000 ≤ k) (r : Int) (l : List Cell) (h : meshGo r 0 l = true) (i : Nat) (hi : i < l.length) (hv : levAt l i < 4) :
    go (k + 2) impl_Mesh_refine [.ptr true [.int .i64 r, .arr true false (.r3 l)], .int .i64 (i : Int)] = some [.ptr true [.int .i64 r, .arr true false (.r3 (splitL l i))]] := by
  rw [e_impl_Mesh_refine]
  have L := mesh_len h
  have id := idOk_iff.1 ((mesh_facts _ _ _ h).2.2.2.1 _ hi).2.2
  have hp : pow2 (l.getD i zz3).2.1 ≤ 16 := by
    rcases lev (inR_iff.2 id.2.1) with e | e | e | e | e <;> rw [e] <;> decide
  have eR := c_slices_Replace_id k false false l [ch0 (l.getD i zz3), ch1 (l.getD i zz3)] (i : Int) ((i + 1 : Nat) : Int) (by omega) (by omega) (by omega) (by simp) (by simp <;> omega) (by omega) (by simp)
  rw [Int.toNat_natCast, Int.toNat_natCast] at eR
  simp only [levAt] at hv
  simp (disch := omega) only [bindS, nth0, nth1, nth2, nth3, bit, cell0, cell1, cell2, cell3, cell4, cell5, cell6, cell7, cell8, cell9, cell10, cell11, cell12, cell13, cell14, cell15, cell16, cell17, cell18, cell19, cell20, cell21, cell22, cell23, toInt_int, toBool_bool, toStr_str, nil_arr, r3_arr, r4_arr, ints_arr, bools_arr, strs_arr, nI, condT, condF, Bool.not_true, Bool.not_false, Bool.and_true, Bool.true_and, Bool.and_false, Bool.false_and, Bool.or_true, Bool.true_or, Bool.or_false, Bool.false_or, beq_self_eq_true, dTT, dFF, dT, dF, bigI, big0, nilApp, wrapI, wrapU, List.length_set, List.length_replicate, Int.toNat_natCast, castS, castS2, imax, imin, e_impl_child, Int.add_zero, eR]
  rw [List.append_assoc]; rfl
theorem c_impl_refine (k : Nat) (hk : 2000000 ≤ k) (r : Int) (s : S3) (b : List Int) (U : StU r s b) (i : Nat) (hi : i < s.1.length) (hv : levAt s.1 i < 4) :
    go (k + 3) impl_State_refine [.ptr true [.int .i64 (r), .arr true (false) (.r3 (s.1)), .arr true (false) (.ints .i64 (s.2.1)), .arr true (false) (.ints .i64 (s.2.2)), .arr true (false) (.ints .i64 (b))], .int .i64 (i : Int)] = some [.ptr true [.int .i64 (r), .arr true (false) (.r3 ((rfS s i).1)), .arr true (false) (.ints .i64 ((rfS s i).2.1)), .arr true (false) (.ints .i64 ((rfS s i).2.2)), .arr true (false) (.ints .i64 (b))]] := by
  obtain ⟨l, m, t⟩ := s
  simp only at hi hv ⊢
  rw [e_impl_State_refine]
  have L := U.len; have ml : m.length = l.length := U.ml; have tl : t.length = l.length := U.tl; have bl := U.bl; have rr := U.rr
  have a : 0 ≤ m.getD i 0 ∧ m.getD i 0 ≤ 10000000 ∧ 0 ≤ t.getD i 0 ∧ t.getD i 0 ≤ 1000 * m.getD i 0 := U.at i
  simp only at L
  have q := hAB a.1
  have sh := shr_le ⟨a.1, a.2.1⟩ ⟨a.2.2.1, a.2.2.2⟩
  simp only [shr] at sh
  have eM := c_impl_Mesh_refine k (by omega) r l U.mesh i hi hv
  have e1 := c_slices_Replace_int (k + 1) false false m [hA (m.getD i 0), hB (m.getD i 0)] (i : Int) ((i + 1 : Nat) : Int) (by omega) (by omega) (by omega) (by simp) (by simp <;> omega) (by omega) (by simp)
  have e2 := c_slices_Replace_int (k + 1) false false t [shareOut (t.getD i 0) (hA (m.getD i 0)) (m.getD i 0), t.getD i 0 - shareOut (t.getD i 0) (hA (m.getD i 0)) (m.getD i 0)] (i : Int) ((i + 1 : Nat) : Int) (by omega) (by omega) (by omega) (by simp) (by simp <;> omega) (by omega) (by simp)
  rw [Int.toNat_natCast, Int.toNat_natCast] at e1 e2
  simp (disch := omega) only [bindS, nth0, nth1, nth2, nth3, bit, cell0, cell1, cell2, cell3, cell4, cell5, cell6, cell7, cell8, cell9, cell10, cell11, cell12, cell13, cell14, cell15, cell16, cell17, cell18, cell19, cell20, cell21, cell22, cell23, toInt_int, toBool_bool, toStr_str, nil_arr, r3_arr, r4_arr, ints_arr, bools_arr, strs_arr, nI, condT, condF, Bool.not_true, Bool.not_false, Bool.and_true, Bool.true_and, Bool.and_false, Bool.false_and, Bool.or_true, Bool.true_or, Bool.or_false, Bool.false_or, beq_self_eq_true, dTT, dFF, dT, dF, bigI, big0, nilApp, wrapI, wrapU, List.length_set, List.length_replicate, Int.toNat_natCast, castS, castS2, imax, imin, c_impl_SplitEven, c_impl_ShareOut, eM, e1, e2, qcell0, qcell1, qcell2]
  rw [List.append_assoc, List.append_assoc]
  rfl
theorem c_ParentOf {a : Cell} (hid : idOk a.1 a.2.1 a.2.2 = true) (hv : 1 ≤ a.2.1) : (∀ (k : Nat), 2000000 ≤ k → go (k + 3) spec_ParentOf [.agg [.int .i64 a.1, .int .i64 a.2.1, .int .i64 a.2.2]] = some [.agg [.int .i64 (par a).1, .int .i64 (par a).2.1, .int .i64 (par a).2.2], .bool true]) ∧
    (∀ (k : Nat), 2000000 ≤ k → go (k + 4) impl_ParentOf [.agg [.int .i64 a.1, .int .i64 a.2.1, .int .i64 a.2.2]] = some [.agg [.int .i64 (par a).1, .int .i64 (par a).2.1, .int .i64 (par a).2.2], .bool true]) := by
  have id := idOk_iff.1 hid
  have hp : pow2 a.2.1 ≤ 16 := by
    rcases lev (inR_iff.2 id.2.1) with e | e | e | e | e <;> rw [e] <;> decide
  have e : Int.tdiv a.2.2 2 = a.2.2 / 2 := Int.tdiv_eq_ediv_of_nonneg id.2.2.1
  refine ⟨fun k hk => ?_, fun k hk => ?_⟩
  · rw [e_spec_ParentOf]; simp (disch := omega) only [bindS, nth0, nth1, nth2, nth3, bit, cell0, cell1, cell2, cell3, cell4, cell5, cell6, cell7, cell8, cell9, cell10, cell11, cell12, cell13, cell14, cell15, cell16, cell17, cell18, cell19, cell20, cell21, cell22, cell23, toInt_int, toBool_bool, toStr_str, nil_arr, r3_arr, r4_arr, ints_arr, bools_arr, strs_arr, nI, condT, condF, Bool.not_true, Bool.not_false, Bool.and_true, Bool.true_and, Bool.and_false, Bool.false_and, Bool.or_true, Bool.true_or, Bool.or_false, Bool.false_or, beq_self_eq_true, dTT, dFF, dT, dF, bigI, big0, nilApp, wrapI, wrapU, List.length_set, List.length_replicate, Int.toNat_natCast, castS, castS2, imax, imin, c_spec_IdOk, hid, e]
  · rw [e_impl_ParentOf]; simp (disch := omega) only [bindS, nth0, nth1, nth2, nth3, bit, cell0, cell1, cell2, cell3, cell4, cell5, cell6, cell7, cell8, cell9, cell10, cell11, cell12, cell13, cell14, cell15, cell16, cell17, cell18, cell19, cell20, cell21, cell22, cell23, toInt_int, toBool_bool, toStr_str, nil_arr, r3_arr, r4_arr, ints_arr, bools_arr, strs_arr, nI, condT, condF, Bool.not_true, Bool.not_false, Bool.and_true, Bool.true_and, Bool.and_false, Bool.false_and, Bool.or_true, Bool.true_or, Bool.or_false, Bool.false_or, beq_self_eq_true, dTT, dFF, dT, dF, bigI, big0, nilApp, wrapI, wrapU, List.length_set, List.length_replicate, Int.toNat_natCast, castS, castS2, imax, imin, c_impl_IdOk, hid, e]
theorem c_spec_l06Merge (k : Nat) (hk : 2000000 ≤ k) (r : Int) (z : Bool) (l : List Cell) (h : meshGo r 0 l = true) (i : Nat) (hi : i + 1 < l.length) (hv : 1 ≤ levAt l i) :
    go (k + 4) spec_l06Merge [.agg [.int .i64 r, .arr false z (.r3 l)], .int .i64 (i : Int)] = some [.agg [.int .i64 r, .arr true false (.r3 (mergeL l i))]] := by
  rw [e_spec_l06Merge]
  have L := mesh_len h
  have eP := (c_ParentOf ((mesh_facts _ _ _ h).2.2.2.1 _ (show i < l.length by omega)).2.2 hv).1 k (by omega)
  have m1 : (l.take i).length = i := by rw [List.length_take]; omega
  have m2 : ∀ p : Cell, (l.take i ++ [p]).length = i + 1 := fun p => by rw [List.length_append, m1]; rfl
  have m3 : ∀ p : Cell, (l.take i ++ [p] ++ l.drop (i + 2)).length = l.length - 1 := fun p => by rw [List.length_append, m2, List.length_drop]; omega
  simp (disch := omega) only [bindS, nth0, nth1, nth2, nth3, bit, cell0, cell1, cell2, cell3, cell4, cell5, cell6, cell7, cell8, cell9, cell10, cell11, cell12, cell13, cell14, cell15, cell16, cell17, cell18, cell19, cell20, cell21, cell22, cell23, toInt_int, toBool_bool, toStr_str, nil_arr, r3_arr, r4_arr, ints_arr, bools_arr, strs_arr, nI, condT, condF, Bool.not_true, Bool.not_false, Bool.and_true, Bool.true_and, Bool.and_false, Bool.false_and, Bool.or_true, Bool.true_or, Bool.or_false, Bool.false_or, beq_self_eq_true, dTT, dFF, dT, dF, bigI, big0, nilApp, wrapI, wrapU, List.length_set, List.length_replicate, Int.toNat_natCast, castS, castS2, imax, imin, eP, ton0, Nat.sub_zero, Nat.zero_add, List.drop_zero, takeDrop', m1, m2, m3]
  rw [List.append_assoc]; rfl
theorem c_spec_l08Merge (k : Nat) (hk : 2000000 ≤ k) (r : Int) (s : S3) (b : List Int) (U : StU r s b) (i : Nat) (hi : i + 1 < s.1.length) (hv : 1 ≤ levAt s.1 i) :
    go (k + 5) spec_l08Merge [.agg [.int .i64 (r), .arr false (false) (.r3 (s.1)), .arr false (false) (.ints .i64 (s.2.1)), .arr false (false) (.ints .i64 (s.2.2)), .arr false (false) (.ints .i64 (b))], .int .i64 (i : Int)] = some [.agg [.int .i64 (r), .arr true (false) (.r3 ((cmS s i).1)), .arr true (false) (.ints .i64 ((cmS s i).2.1)), .arr true (false) (.ints .i64 ((cmS s i).2.2)), .arr true (false) (.ints .i64 (b))]] := by
  obtain ⟨l, m, t⟩ := s
  simp only at hi hv ⊢
  rw [e_spec_l08Merge]
  have L := U.len; have ml : m.length = l.length := U.ml; have tl : t.length = l.length := U.tl; have bl := U.bl; have rr := U.rr
  have a : 0 ≤ m.getD i 0 ∧ m.getD i 0 ≤ 10000000 ∧ 0 ≤ t.getD i 0 ∧ t.getD i 0 ≤ 1000 * m.getD i 0 := U.at i
  have a' : 0 ≤ m.getD (i + 1) 0 ∧ m.getD (i + 1) 0 ≤ 10000000 ∧ 0 ≤ t.getD (i + 1) 0 ∧ t.getD (i + 1) 0 ≤ 1000 * m.getD (i + 1) 0 := U.at (i + 1)
  simp only at L
  have eM := c_spec_l06Merge k (by omega) r false l U.mesh i hi hv
  have m1 : (m.take i).length = i := by rw [List.length_take]; omega
  have t1 : (t.take i).length = i := by rw [List.length_take]; omega
  have m2 : ∀ p : Int, (m.take i ++ [p]).length = i + 1 := fun p => by rw [List.length_append, m1]; rfl
  have t2 : ∀ p : Int, (t.take i ++ [p]).length = i + 1 := fun p => by rw [List.length_append, t1]; rfl
  have m3 : (m.take i ++ [m.getD i 0 + m.getD (i + 1) 0] ++ m.drop (i + 2)).length + 1 = l.length := by rw [List.length_append, m2, List.length_drop]; omega
  have t3 : (t.take i ++ [t.getD i 0 + t.getD (i + 1) 0] ++ t.drop (i + 2)).length + 1 = l.length := by rw [List.length_append, t2, List.length_drop]; omega
  simp (disch := omega) only [bindS, nth0, nth1, nth2, nth3, bit, cell0, cell1, cell2, cell3, cell4, cell5, cell6, cell7, cell8, cell9, cell10, cell11, cell12, cell13, cell14, cell15, cell16, cell17, cell18, cell19, cell20, cell21, cell22, cell23, toInt_int, toBool_bool, toStr_str, nil_arr, r3_arr, r4_arr, ints_arr, bools_arr, strs_arr, nI, condT, condF, Bool.not_true, Bool.not_false, Bool.and_true, Bool.true_and, Bool.and_false, Bool.false_and, Bool.or_true, Bool.true_or, Bool.or_false, Bool.false_or, beq_self_eq_true, dTT, dFF, dT, dF, bigI, big0, nilApp, wrapI, wrapU, List.length_set, List.length_replicate, Int.toNat_natCast, castS, castS2, imax, imin, eM, ton0, Nat.sub_zero, Nat.zero_add, List.drop_zero, takeDrop', m1, m2, t1, t2]
  rw [List.append_assoc, List.append_assoc]
  rfl
theorem c_impl_Mesh_coarsen (k : Nat) (hk : 2000000 ≤ k) (r : Int) (l : List Cell) (h : meshGo r 0 l = true) (i : Nat) (hi : i + 1 < l.length) (hv : 1 ≤ levAt l i) :
    go (k + 5) impl_Mesh_coarsen [.ptr true [.int .i64 r, .arr true false (.r3 l)], .int .i64 (i : Int)] = some [.ptr true [.int .i64 r, .arr true false (.r3 (mergeL l i))]] := by
  rw [e_impl_Mesh_coarsen]
  have L := mesh_len h
  have eP := (c_ParentOf ((mesh_facts _ _ _ h).2.2.2.1 _ (show i < l.length by omega)).2.2 hv).2 k (by omega)
  have eR := c_slices_Replace_id (k + 3) false false l [par (l.getD i zz3)] (i : Int) ((i + 2 : Nat) : Int) (by omega) (by omega) (by omega) (by simp) (by simp <;> omega) (by omega) (by simp)
  rw [Int.toNat_natCast, Int.toNat_natCast] at eR
  simp (disch := omega) only [bindS, nth0, nth1, nth2, nth3, bit, cell0, cell1, cell2, cell3, cell4, cell5, cell6, cell7, cell8, cell9, cell10, cell11, cell12, cell13, cell14, cell15, cell16, cell17, cell18, cell19, cell20, cell21, cell22, cell23, toInt_int, toBool_bool, toStr_str, nil_arr, r3_arr, r4_arr, ints_arr, bools_arr, strs_arr, nI, condT, condF, Bool.not_true, Bool.not_false, Bool.and_true, Bool.true_and, Bool.and_false, Bool.false_and, Bool.or_true, Bool.true_or, Bool.or_false, Bool.false_or, beq_self_eq_true, dTT, dFF, dT, dF, bigI, big0, nilApp, wrapI, wrapU, List.length_set, List.length_replicate, Int.toNat_natCast, castS, castS2, imax, imin, eP, eR]
  rw [List.append_assoc]; rfl
theorem c_impl_coarsen (k : Nat) (hk : 2000000 ≤ k) (r : Int) (s : S3) (b : List Int) (U : StU r s b) (i : Nat) (hi : i + 1 < s.1.length) (hv : 1 ≤ levAt s.1 i) :
    go (k + 6) impl_State_coarsen [.ptr true [.int .i64 (r), .arr true (false) (.r3 (s.1)), .arr true (false) (.ints .i64 (s.2.1)), .arr true (false) (.ints .i64 (s.2.2)), .arr true (false) (.ints .i64 (b))], .int .i64 (i : Int)] = some [.ptr true [.int .i64 (r), .arr true (false) (.r3 ((cmS s i).1)), .arr true (false) (.ints .i64 ((cmS s i).2.1)), .arr true (false) (.ints .i64 ((cmS s i).2.2)), .arr true (false) (.ints .i64 (b))]] := by
  obtain ⟨l, m, t⟩ := s
  simp only at hi hv ⊢
  rw [e_impl_State_coarsen]
  have L := U.len; have ml : m.length = l.length := U.ml; have tl : t.length = l.length := U.tl; have bl := U.bl; have rr := U.rr
  have a : 0 ≤ m.getD i 0 ∧ m.getD i 0 ≤ 10000000 ∧ 0 ≤ t.getD i 0 ∧ t.getD i 0 ≤ 1000 * m.getD i 0 := U.at i
  have a' : 0 ≤ m.getD (i + 1) 0 ∧ m.getD (i + 1) 0 ≤ 10000000 ∧ 0 ≤ t.getD (i + 1) 0 ∧ t.getD (i + 1) 0 ≤ 1000 * m.getD (i + 1) 0 := U.at (i + 1)
  simp only at L
  have eM := c_impl_Mesh_coarsen k (by omega) r l U.mesh i hi hv
  have e1 := c_slices_Replace_int (k + 4) false false m [m.getD i 0 + m.getD (i + 1) 0] (i : Int) ((i + 2 : Nat) : Int) (by omega) (by omega) (by omega) (by simp) (by simp <;> omega) (by omega) (by simp)
  have e2 := c_slices_Replace_int (k + 4) false false t [t.getD i 0 + t.getD (i + 1) 0] (i : Int) ((i + 2 : Nat) : Int) (by omega) (by omega) (by omega) (by simp) (by simp <;> omega) (by omega) (by simp)
  rw [Int.toNat_natCast, Int.toNat_natCast] at e1 e2
  simp (disch := omega) only [bindS, nth0, nth1, nth2, nth3, bit, cell0, cell1, cell2, cell3, cell4, cell5, cell6, cell7, cell8, cell9, cell10, cell11, cell12, cell13, cell14, cell15, cell16, cell17, cell18, cell19, cell20, cell21, cell22, cell23, toInt_int, toBool_bool, toStr_str, nil_arr, r3_arr, r4_arr, ints_arr, bools_arr, strs_arr, nI, condT, condF, Bool.not_true, Bool.not_false, Bool.and_true, Bool.true_and, Bool.and_false, Bool.false_and, Bool.or_true, Bool.true_or, Bool.or_false, Bool.false_or, beq_self_eq_true, dTT, dFF, dT, dF, bigI, big0, nilApp, wrapI, wrapU, List.length_set, List.length_replicate, Int.toNat_natCast, castS, castS2, imax, imin, eM, e1, e2, qcell0, qcell1, qcell2]
  rw [List.append_assoc, List.append_assoc]
  rfl
end Go.Proofs.Ytfgccfajhedgdaa
