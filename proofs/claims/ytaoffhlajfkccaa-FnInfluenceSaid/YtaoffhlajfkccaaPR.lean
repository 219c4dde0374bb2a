/- Reached and ConeWidth: both readings compute the same. -/
import Derived.Test.YtaoffhlajfkccaaXR
import Derived.Test.YtaoffhlajfkccaaPF
namespace Go.Proofs.Ytaoffhlajfkccaa
open Go.Ev
set_option linter.unusedVariables false
set_option linter.unusedSimpArgs false
def w1 (t : Int) (l : List Cell) (set out : List Bool) (i : Nat) : List Bool :=
  cond (set.getD i false)
    (let o1 := cond (decide (1 ≤ i) && actAt t l (i - 1)) (out.set (i - 1) true) out
     cond (actAt t l i) (cond (actAt t l (i + 1)) ((o1.set (i + 1) true).set (i + 2) true) (o1.set (i + 1) true)) o1) out
def wgo (t : Int) (l : List Cell) (set : List Bool) : Nat → Nat → List Bool → List Bool
  | 0, _, out => out
  | n + 1, i, out => wgo t l set n (i + 1) (w1 t l set out i)
theorem w1_length (t : Int) (l : List Cell) (set out : List Bool) (i : Nat) : (w1 t l set out i).length = out.length := by
  unfold w1
  cases set.getD i false <;> cases (decide (1 ≤ i) && actAt t l (i - 1)) <;> cases actAt t l i <;> cases actAt t l (i + 1) <;> simp
theorem wgo_length (t : Int) (l : List Cell) (set : List Bool) : ∀ (n i : Nat) (out : List Bool), (wgo t l set n i out).length = out.length
  | 0, i, out => rfl
  | n + 1, i, out => by rw [wgo, wgo_length t l set n, w1_length]
def widen (t : Int) (l : List Cell) (set : List Bool) : List Bool := wgo t l set l.length 0 set
theorem widen_length (t : Int) (l : List Cell) (set : List Bool) : (widen t l set).length = set.length := wgo_length _ _ _ _ _ _
theorem c_widen_1 (k : Nat) (hk : 2000000 ≤ k) (x : Int) (r : Int) (z : Bool) (l : List Cell) (t : Int) (hl : (l.length : Int) ≤ 1048576) (hx : -1 ≤ x) (hx' : x ≤ l.length) :
    go (k + 5) impl_Mesh_widen_1 [.int .i64 x, .ptr false [.int .i64 r, .arr false z (.r3 l)], .ptr false [.int .i64 t]] = some [.bool (decide (0 ≤ x) && actAt t l x.toNat)] := by
  rw [e_impl_Mesh_widen_1_v1]
  simp (disch := omega) only [bindS, nth0, nth1, nth2, nth3, bit, cell0, cell1, cell2, cell3, cell4, cell5, cell6, cell7, cell8, cell9, cell10, cell11, cell12, cell13, cell14, cell15, cell16, cell17, cell18, cell19, cell20, cell21, cell22, cell23, toInt_int, toBool_bool, toStr_str, nil_arr, r3_arr, r4_arr, ints_arr, bools_arr, strs_arr, nI, condT, condF, Bool.not_true, Bool.not_false, Bool.and_true, Bool.true_and, Bool.and_false, Bool.false_and, Bool.or_true, Bool.true_or, Bool.or_false, Bool.false_or, beq_self_eq_true, dTT, dFF, dT, dF, bigI, big0, nilApp, wrapI, wrapU, List.length_set, List.length_replicate, Int.toNat_natCast, castS, castS2, imax, imin, c_impl_within]
  by_cases h : 0 ≤ x ∧ x + 1 < l.length
  · obtain ⟨i, rfl⟩ : ∃ i : Nat, x = (i : Int) := ⟨x.toNat, by omega⟩
    have h1 : inR (i : Int) 0 ((l.length : Int) - 2) = true := by rw [inR_iff]; omega
    have h2 : i + 1 < l.length := by have := h.2; omega
    have e := c_impl_faceLevel k hk r z l i h2 hl
    rw [h1]
    simp (disch := omega) only [bindS, nth0, nth1, nth2, nth3, bit, cell0, cell1, cell2, cell3, cell4, cell5, cell6, cell7, cell8, cell9, cell10, cell11, cell12, cell13, cell14, cell15, cell16, cell17, cell18, cell19, cell20, cell21, cell22, cell23, toInt_int, toBool_bool, toStr_str, nil_arr, r3_arr, r4_arr, ints_arr, bools_arr, strs_arr, nI, condT, condF, Bool.not_true, Bool.not_false, Bool.and_true, Bool.true_and, Bool.and_false, Bool.false_and, Bool.or_true, Bool.true_or, Bool.or_false, Bool.false_or, beq_self_eq_true, dTT, dFF, dT, dF, bigI, big0, nilApp, wrapI, wrapU, List.length_set, List.length_replicate, Int.toNat_natCast, castS, castS2, imax, imin, c_impl_faceLevel, c_impl_IsActive, actAt]
  · have h1 : inR x 0 ((l.length : Int) - 2) = false := by
      cases hh : inR x 0 ((l.length : Int) - 2)
      · rfl
      · rw [inR_iff] at hh; omega
    rw [h1]
    by_cases h0 : 0 ≤ x
    · have : ¬ (x.toNat + 1 < l.length) := by omega
      simp (disch := omega) only [bindS, nth0, nth1, nth2, nth3, bit, cell0, cell1, cell2, cell3, cell4, cell5, cell6, cell7, cell8, cell9, cell10, cell11, cell12, cell13, cell14, cell15, cell16, cell17, cell18, cell19, cell20, cell21, cell22, cell23, toInt_int, toBool_bool, toStr_str, nil_arr, r3_arr, r4_arr, ints_arr, bools_arr, strs_arr, nI, condT, condF, Bool.not_true, Bool.not_false, Bool.and_true, Bool.true_and, Bool.and_false, Bool.false_and, Bool.or_true, Bool.true_or, Bool.or_false, Bool.false_or, beq_self_eq_true, dTT, dFF, dT, dF, bigI, big0, nilApp, wrapI, wrapU, List.length_set, List.length_replicate, Int.toNat_natCast, castS, castS2, imax, imin, actAt]
    · simp (disch := omega) only [bindS, nth0, nth1, nth2, nth3, bit, cell0, cell1, cell2, cell3, cell4, cell5, cell6, cell7, cell8, cell9, cell10, cell11, cell12, cell13, cell14, cell15, cell16, cell17, cell18, cell19, cell20, cell21, cell22, cell23, toInt_int, toBool_bool, toStr_str, nil_arr, r3_arr, r4_arr, ints_arr, bools_arr, strs_arr, nI, condT, condF, Bool.not_true, Bool.not_false, Bool.and_true, Bool.true_and, Bool.and_false, Bool.false_and, Bool.or_true, Bool.true_or, Bool.or_false, Bool.false_or, beq_self_eq_true, dTT, dFF, dT, dF, bigI, big0, nilApp, wrapI, wrapU, List.length_set, List.length_replicate, Int.toNat_natCast, castS, castS2, imax, imin]
theorem m_widen (k : Nat) (hk : 2000000 ≤ k) (fu : List (Nat × Nat)) (t r : Int) (z z' z'' : Bool) (l : List Cell) (set : List Bool) (hl : (l.length : Int) ≤ 1048576) (hs : set.length = l.length) : ∀ (n i : Nat) (out : List Bool), i ≤ l.length → out.length = l.length → l.length - i < n →
    lp (k + 5) impl_Mesh_widen [] fu 4 (n) (s_impl_Mesh_widen_4 (l.length : Int) (i : Int) z' out z l r t z'' set) = some [.arr true z' (.bools (wgo t l set (l.length - i) i out))]
  | 0, i, out, hi, ho, hn => by omega
  | n + 1, i, out, hi, ho, hn => by
    have IH := m_widen k hk fu t r z z' z'' l set hl hs n (i + 1)
    rw [l_impl_Mesh_widen_4]
    by_cases h : i < l.length
    · rw [show l.length - i = (l.length - (i + 1)) + 1 by omega, wgo]
      cases hg : set.getD i false
      · simp (disch := omega) only [hg, bindS, nth0, bit, nI, condT, condF, Bool.and_true, Bool.not_false, dT, wrapI, Int.toNat_natCast, castS]
        rw [IH out (by omega) ho (by omega)]
        simp only [w1, hg, condF]
      · have key : ∀ (b1 b2 b3 : Bool), True := fun _ _ _ => trivial
        by_cases h1 : 1 ≤ i <;> rcases (show (i + 1 < l.length ∧ i + 2 < l.length) ∨ (i + 1 < l.length ∧ ¬ i + 2 < l.length) ∨ (¬ i + 1 < l.length ∧ ¬ i + 2 < l.length) by omega) with ⟨h2, h3⟩ | ⟨h2, h3⟩ | ⟨h2, h3⟩ <;>
        simp (disch := omega) only [bindS, nth0, nth1, nth2, nth3, bit, cell0, cell1, cell2, cell3, cell4, cell5, cell6, cell7, cell8, cell9, cell10, cell11, cell12, cell13, cell14, cell15, cell16, cell17, cell18, cell19, cell20, cell21, cell22, cell23, toInt_int, toBool_bool, toStr_str, nil_arr, r3_arr, r4_arr, ints_arr, bools_arr, strs_arr, nI, condT, condF, Bool.not_true, Bool.not_false, Bool.and_true, Bool.true_and, Bool.and_false, Bool.false_and, Bool.or_true, Bool.true_or, Bool.or_false, Bool.false_or, beq_self_eq_true, dTT, dFF, dT, dF, bigI, big0, nilApp, wrapI, wrapU, List.length_set, List.length_replicate, Int.toNat_natCast, castS, castS2, imax, imin, castP, c_widen_1, actAt, w1, hg, hs, ho, Nat.add_assoc, Nat.sub_add_cancel, Nat.reduceAdd] <;>
        (try cases isAct t (faceLv l (i - 1))) <;> (try cases isAct t (faceLv l i)) <;> (try cases isAct t (faceLv l (i + 1))) <;> (try simp only [condT, condF]) <;> (rw [IH _ (by omega) (by simp [ho]) (by omega)])
    · simp (disch := omega) only [bindS, nth0, nth1, nth2, nth3, bit, cell0, cell1, cell2, cell3, cell4, cell5, cell6, cell7, cell8, cell9, cell10, cell11, cell12, cell13, cell14, cell15, cell16, cell17, cell18, cell19, cell20, cell21, cell22, cell23, toInt_int, toBool_bool, toStr_str, nil_arr, r3_arr, r4_arr, ints_arr, bools_arr, strs_arr, nI, condT, condF, Bool.not_true, Bool.not_false, Bool.and_true, Bool.true_and, Bool.and_false, Bool.false_and, Bool.or_true, Bool.true_or, Bool.or_false, Bool.false_or, beq_self_eq_true, dTT, dFF, dT, dF, bigI, big0, nilApp, wrapI, wrapU, List.length_set, List.length_replicate, Int.toNat_natCast, castS, castS2, imax, imin]
      rw [show l.length - i = 0 by omega]
      rfl
theorem c_slices_Clone_bool (k : Nat) (hk : 2000000 ≤ k) (a : List Bool) (hl : (a.length : Int) ≤ 1048576) : go (k + 1) slices_Clone_bool_bool [.arr false false (.bools a)] = some [.arr true false (.bools a)] := by
  rw [e_slices_Clone_bool_bool]
  simp (disch := omega) only [bindS, nth0, nth1, nth2, nth3, bit, cell0, cell1, cell2, cell3, cell4, cell5, cell6, cell7, cell8, cell9, cell10, cell11, cell12, cell13, cell14, cell15, cell16, cell17, cell18, cell19, cell20, cell21, cell22, cell23, toInt_int, toBool_bool, toStr_str, nil_arr, r3_arr, r4_arr, ints_arr, bools_arr, strs_arr, nI, condT, condF, Bool.not_true, Bool.not_false, Bool.and_true, Bool.true_and, Bool.and_false, Bool.false_and, Bool.or_true, Bool.true_or, Bool.or_false, Bool.false_or, beq_self_eq_true, dTT, dFF, dT, dF, bigI, big0, nilApp, wrapI, wrapU, List.length_set, List.length_replicate, Int.toNat_natCast, castS, castS2, imax, imin]
theorem c_widen (k : Nat) (hk : 2000000 ≤ k) (r : Int) (z : Bool) (l : List Cell) (set : List Bool) (t : Int) (hl : (l.length : Int) ≤ 1048576) (hs : set.length = l.length) :
    go (k + 6) impl_Mesh_widen [.agg [.int .i64 r, .arr false z (.r3 l)], .arr false false (.bools set), .int .i64 t] = some [.arr true false (.bools (widen t l set))] := by
  rw [e_impl_Mesh_widen]
  simp (disch := omega) only [bindS, nth0, nth1, nth2, nth3, bit, cell0, cell1, cell2, cell3, cell4, cell5, cell6, cell7, cell8, cell9, cell10, cell11, cell12, cell13, cell14, cell15, cell16, cell17, cell18, cell19, cell20, cell21, cell22, cell23, toInt_int, toBool_bool, toStr_str, nil_arr, r3_arr, r4_arr, ints_arr, bools_arr, strs_arr, nI, condT, condF, Bool.not_true, Bool.not_false, Bool.and_true, Bool.true_and, Bool.and_false, Bool.false_and, Bool.or_true, Bool.true_or, Bool.or_false, Bool.false_or, beq_self_eq_true, dTT, dFF, dT, dF, bigI, big0, nilApp, wrapI, wrapU, List.length_set, List.length_replicate, Int.toNat_natCast, castS, castS2, imax, imin, c_slices_Clone_bool, hs]
  exact m_widen k hk [] t r z false false l set hl hs _ 0 set (by omega) hs (by omega)
def reach (l : List Cell) (from_ : Int) : Nat → List Bool → List Bool
  | 0, set => set
  | n + 1, set => reach l from_ n (widen (from_ + n) l set)
theorem reach_length (l : List Cell) (c : Int) : ∀ (n : Nat) (set : List Bool), (reach l c n set).length = set.length
  | 0, set => rfl
  | n + 1, set => by rw [reach, reach_length l c n, widen_length]
theorem m_impl_Reached (k : Nat) (hk : 2000000 ≤ k) (fu : List (Nat × Nat)) (c r : Int) (z : Bool) (l : List Cell) (hl : (l.length : Int) ≤ 1048576) (hc : 0 ≤ c) (hc' : c ≤ 9223372036854775807) : ∀ (n m : Nat) (set : List Bool), set.length = l.length → m < n → m ≤ 1000 → c + m ≤ 9223372036854775807 →
    lp (k + 6) impl_Reached [] fu 6 (n) (s_impl_Reached_6 c (c + (m : Int) - 1) z l r false set) = some [.arr true false (.bools (reach l c m set))]
  | 0, m, set, hs, hn, hm, hb => by omega
  | n + 1, m, set, hs, hn, hm, hb => by
    rw [l_impl_Reached_6]
    cases m with
    | zero => simp (disch := omega) only [bindS, nth0, nth1, nth2, nth3, bit, cell0, cell1, cell2, cell3, cell4, cell5, cell6, cell7, cell8, cell9, cell10, cell11, cell12, cell13, cell14, cell15, cell16, cell17, cell18, cell19, cell20, cell21, cell22, cell23, toInt_int, toBool_bool, toStr_str, nil_arr, r3_arr, r4_arr, ints_arr, bools_arr, strs_arr, nI, condT, condF, Bool.not_true, Bool.not_false, Bool.and_true, Bool.true_and, Bool.and_false, Bool.false_and, Bool.or_true, Bool.true_or, Bool.or_false, Bool.false_or, beq_self_eq_true, dTT, dFF, dT, dF, bigI, big0, nilApp, wrapI, wrapU, List.length_set, List.length_replicate, Int.toNat_natCast, castS, castS2, imax, imin]; rfl
    | succ m =>
      simp (disch := omega) only [bindS, nth0, nth1, nth2, nth3, bit, cell0, cell1, cell2, cell3, cell4, cell5, cell6, cell7, cell8, cell9, cell10, cell11, cell12, cell13, cell14, cell15, cell16, cell17, cell18, cell19, cell20, cell21, cell22, cell23, toInt_int, toBool_bool, toStr_str, nil_arr, r3_arr, r4_arr, ints_arr, bools_arr, strs_arr, nI, condT, condF, Bool.not_true, Bool.not_false, Bool.and_true, Bool.true_and, Bool.and_false, Bool.false_and, Bool.or_true, Bool.true_or, Bool.or_false, Bool.false_or, beq_self_eq_true, dTT, dFF, dT, dF, bigI, big0, nilApp, wrapI, wrapU, List.length_set, List.length_replicate, Int.toNat_natCast, castS, castS2, imax, imin, c_widen]
      have e1 : c + ((m + 1 : Nat) : Int) - 1 = c + (m : Int) := by omega
      simp only [e1]
      rw [m_impl_Reached k hk fu c r z l hl hc hc' n m _ (by rw [widen_length]; exact hs) (by omega) (by omega) (by omega)]
      rfl
def reached (roots : Int) (l : List Cell) (b c d : Int) : Option (List Bool) :=
  if meshGo roots 0 l && (inR b 0 ((l.length : Int) - 1) && (decide (0 ≤ c) && (decide (c ≤ d) && decide (d - c ≤ 1000)))) then some (reach l c (d - c).toNat ((List.replicate l.length false).set b.toNat true)) else none
theorem c_impl_Reached (k : Nat) (hk : 2000000 ≤ k) (a0 : Int) (a1z : Bool) (a1 : List (Int × Int × Int)) (b : Int) (c : Int) (d : Int) (hl : (a1.length : Int) ≤ 1048576) (hc : c ≤ 9223372036854775807) (hd : d ≤ 9223372036854775807) : go (k + 7) impl_Reached [(.agg [(.int .i64 (a0)), (.arr false (a1z) (.r3 (a1)))]), (.int .i64 (b)), (.int .i64 (c)), (.int .i64 (d))] = some [.arr true (reached a0 a1 b c d).isNone (.bools ((reached a0 a1 b c d).getD []))] := by
  rw [e_impl_Reached]
  simp (disch := omega) only [bindS, nth0, nth1, nth2, nth3, bit, cell0, cell1, cell2, cell3, cell4, cell5, cell6, cell7, cell8, cell9, cell10, cell11, cell12, cell13, cell14, cell15, cell16, cell17, cell18, cell19, cell20, cell21, cell22, cell23, toInt_int, toBool_bool, toStr_str, nil_arr, r3_arr, r4_arr, ints_arr, bools_arr, strs_arr, nI, condT, condF, Bool.not_true, Bool.not_false, Bool.and_true, Bool.true_and, Bool.and_false, Bool.false_and, Bool.or_true, Bool.true_or, Bool.or_false, Bool.false_or, beq_self_eq_true, dTT, dFF, dT, dF, bigI, big0, nilApp, wrapI, wrapU, List.length_set, List.length_replicate, Int.toNat_natCast, castS, castS2, imax, imin, c_impl_MeshOk, c_impl_has]
  unfold reached
  cases h1 : meshGo a0 0 a1
  · simp
  cases h2 : inR b 0 ((a1.length : Int) - 1)
  · simp
  rw [inR_iff] at h2
  by_cases h3 : c < 0
  · simp (disch := omega) only [bindS, nth0, nth1, nth2, nth3, bit, cell0, cell1, cell2, cell3, cell4, cell5, cell6, cell7, cell8, cell9, cell10, cell11, cell12, cell13, cell14, cell15, cell16, cell17, cell18, cell19, cell20, cell21, cell22, cell23, toInt_int, toBool_bool, toStr_str, nil_arr, r3_arr, r4_arr, ints_arr, bools_arr, strs_arr, nI, condT, condF, Bool.not_true, Bool.not_false, Bool.and_true, Bool.true_and, Bool.and_false, Bool.false_and, Bool.or_true, Bool.true_or, Bool.or_false, Bool.false_or, beq_self_eq_true, dTT, dFF, dT, dF, bigI, big0, nilApp, wrapI, wrapU, List.length_set, List.length_replicate, Int.toNat_natCast, castS, castS2, imax, imin]; simp
  by_cases h4 : d < c
  · simp (disch := omega) only [bindS, nth0, nth1, nth2, nth3, bit, cell0, cell1, cell2, cell3, cell4, cell5, cell6, cell7, cell8, cell9, cell10, cell11, cell12, cell13, cell14, cell15, cell16, cell17, cell18, cell19, cell20, cell21, cell22, cell23, toInt_int, toBool_bool, toStr_str, nil_arr, r3_arr, r4_arr, ints_arr, bools_arr, strs_arr, nI, condT, condF, Bool.not_true, Bool.not_false, Bool.and_true, Bool.true_and, Bool.and_false, Bool.false_and, Bool.or_true, Bool.true_or, Bool.or_false, Bool.false_or, beq_self_eq_true, dTT, dFF, dT, dF, bigI, big0, nilApp, wrapI, wrapU, List.length_set, List.length_replicate, Int.toNat_natCast, castS, castS2, imax, imin]; simp
  by_cases h5 : 1000 < d - c
  · simp (disch := omega) only [bindS, nth0, nth1, nth2, nth3, bit, cell0, cell1, cell2, cell3, cell4, cell5, cell6, cell7, cell8, cell9, cell10, cell11, cell12, cell13, cell14, cell15, cell16, cell17, cell18, cell19, cell20, cell21, cell22, cell23, toInt_int, toBool_bool, toStr_str, nil_arr, r3_arr, r4_arr, ints_arr, bools_arr, strs_arr, nI, condT, condF, Bool.not_true, Bool.not_false, Bool.and_true, Bool.true_and, Bool.and_false, Bool.false_and, Bool.or_true, Bool.true_or, Bool.or_false, Bool.false_or, beq_self_eq_true, dTT, dFF, dT, dF, bigI, big0, nilApp, wrapI, wrapU, List.length_set, List.length_replicate, Int.toNat_natCast, castS, castS2, imax, imin]; simp
  simp (disch := omega) only [bindS, nth0, nth1, nth2, nth3, bit, cell0, cell1, cell2, cell3, cell4, cell5, cell6, cell7, cell8, cell9, cell10, cell11, cell12, cell13, cell14, cell15, cell16, cell17, cell18, cell19, cell20, cell21, cell22, cell23, toInt_int, toBool_bool, toStr_str, nil_arr, r3_arr, r4_arr, ints_arr, bools_arr, strs_arr, nI, condT, condF, Bool.not_true, Bool.not_false, Bool.and_true, Bool.true_and, Bool.and_false, Bool.false_and, Bool.or_true, Bool.true_or, Bool.or_false, Bool.false_or, beq_self_eq_true, dTT, dFF, dT, dF, bigI, big0, nilApp, wrapI, wrapU, List.length_set, List.length_replicate, Int.toNat_natCast, castS, castS2, imax, imin, if_true]
  obtain ⟨m, hm⟩ := Int.eq_ofNat_of_zero_le (show 0 ≤ d - c by omega)
  have e1 : d - 1 = c + (m : Int) - 1 := by omega
  have e2 : (d - c).toNat = m := by omega
  rw [e1, e2]
  exact m_impl_Reached k hk [] c a0 a1z a1 hl (by omega) hc _ m _ (by simp) (by omega) (by omega) (by omega)
def countT : List Bool → Int
  | [] => 0
  | b :: l => (if b then 1 else 0) + countT l
theorem m_impl_ConeWidth (k : Nat) (hk : 2000000 ≤ k) (fu : List (Nat × Nat)) (z : Bool) (l : List Bool) (hl : (l.length : Int) ≤ 1048576) : ∀ (n i : Nat) (s : Int), i ≤ l.length → l.length - i < n → 0 ≤ s → s ≤ i →
    lp (k + 7) impl_ConeWidth [] fu 3 (n) (s_impl_ConeWidth_3 s (l.length : Int) (i : Int) z l) = some [.int .i64 (s + countT (l.drop i))]
  | 0, i, s, hi, hn, h0, hs => by omega
  | n + 1, i, s, hi, hn, h0, hs => by
    rw [l_impl_ConeWidth_3]
    by_cases h : i < l.length
    · rw [drop_at h false]
      simp (disch := omega) only [bindS, nth0, nth1, nth2, nth3, bit, cell0, cell1, cell2, cell3, cell4, cell5, cell6, cell7, cell8, cell9, cell10, cell11, cell12, cell13, cell14, cell15, cell16, cell17, cell18, cell19, cell20, cell21, cell22, cell23, toInt_int, toBool_bool, toStr_str, nil_arr, r3_arr, r4_arr, ints_arr, bools_arr, strs_arr, nI, condT, condF, Bool.not_true, Bool.not_false, Bool.and_true, Bool.true_and, Bool.and_false, Bool.false_and, Bool.or_true, Bool.true_or, Bool.or_false, Bool.false_or, beq_self_eq_true, dTT, dFF, dT, dF, bigI, big0, nilApp, wrapI, wrapU, List.length_set, List.length_replicate, Int.toNat_natCast, castS, castS2, imax, imin, countT]
      cases l.getD i false
      · simp (disch := omega) only [bindS, nth0, nth1, nth2, nth3, bit, cell0, cell1, cell2, cell3, cell4, cell5, cell6, cell7, cell8, cell9, cell10, cell11, cell12, cell13, cell14, cell15, cell16, cell17, cell18, cell19, cell20, cell21, cell22, cell23, toInt_int, toBool_bool, toStr_str, nil_arr, r3_arr, r4_arr, ints_arr, bools_arr, strs_arr, nI, condT, condF, Bool.not_true, Bool.not_false, Bool.and_true, Bool.true_and, Bool.and_false, Bool.false_and, Bool.or_true, Bool.true_or, Bool.or_false, Bool.false_or, beq_self_eq_true, dTT, dFF, dT, dF, bigI, big0, nilApp, wrapI, wrapU, List.length_set, List.length_replicate, Int.toNat_natCast, castS, castS2, imax, imin]
        rw [m_impl_ConeWidth k hk fu z l hl n (i + 1) s (by omega) (by omega) (by omega) (by omega)]
        simp
      · simp (disch := omega) only [bindS, nth0, nth1, nth2, nth3, bit, cell0, cell1, cell2, cell3, cell4, cell5, cell6, cell7, cell8, cell9, cell10, cell11, cell12, cell13, cell14, cell15, cell16, cell17, cell18, cell19, cell20, cell21, cell22, cell23, toInt_int, toBool_bool, toStr_str, nil_arr, r3_arr, r4_arr, ints_arr, bools_arr, strs_arr, nI, condT, condF, Bool.not_true, Bool.not_false, Bool.and_true, Bool.true_and, Bool.and_false, Bool.false_and, Bool.or_true, Bool.true_or, Bool.or_false, Bool.false_or, beq_self_eq_true, dTT, dFF, dT, dF, bigI, big0, nilApp, wrapI, wrapU, List.length_set, List.length_replicate, Int.toNat_natCast, castS, castS2, imax, imin]
        rw [m_impl_ConeWidth k hk fu z l hl n (i + 1) (s + 1) (by omega) (by omega) (by omega) (by omega)]
        simp only [if_true]; rw [Int.add_assoc]
    · rw [List.drop_of_length_le (by omega)]
      simp (disch := omega) only [bindS, nth0, nth1, nth2, nth3, bit, cell0, cell1, cell2, cell3, cell4, cell5, cell6, cell7, cell8, cell9, cell10, cell11, cell12, cell13, cell14, cell15, cell16, cell17, cell18, cell19, cell20, cell21, cell22, cell23, toInt_int, toBool_bool, toStr_str, nil_arr, r3_arr, r4_arr, ints_arr, bools_arr, strs_arr, nI, condT, condF, Bool.not_true, Bool.not_false, Bool.and_true, Bool.true_and, Bool.and_false, Bool.false_and, Bool.or_true, Bool.true_or, Bool.or_false, Bool.false_or, beq_self_eq_true, dTT, dFF, dT, dF, bigI, big0, nilApp, wrapI, wrapU, List.length_set, List.length_replicate, Int.toNat_natCast, castS, castS2, imax, imin, countT]; rw [Int.add_zero]
theorem reached_length {roots : Int} {l : List Cell} {b c d : Int} : ((reached roots l b c d).getD []).length ≤ l.length := by
  unfold reached
  split
  · simp [reach_length]
  · simp
theorem c_impl_ConeWidth (k : Nat) (hk : 2000000 ≤ k) (a0 : Int) (a1z : Bool) (a1 : List (Int × Int × Int)) (b : Int) (c : Int) (hl : (a1.length : Int) ≤ 1048576) (hc : c ≤ 9223372036854775807) : go (k + 8) impl_ConeWidth [(.agg [(.int .i64 (a0)), (.arr false (a1z) (.r3 (a1)))]), (.int .i64 (b)), (.int .i64 (c))] = some [.int .i64 (countT ((reached a0 a1 b 0 c).getD []))] := by
  rw [e_impl_ConeWidth]
  have h1 := reached_length (roots := a0) (l := a1) (b := b) (c := 0) (d := c)
  simp (disch := omega) only [bindS, nth0, nth1, nth2, nth3, bit, cell0, cell1, cell2, cell3, cell4, cell5, cell6, cell7, cell8, cell9, cell10, cell11, cell12, cell13, cell14, cell15, cell16, cell17, cell18, cell19, cell20, cell21, cell22, cell23, toInt_int, toBool_bool, toStr_str, nil_arr, r3_arr, r4_arr, ints_arr, bools_arr, strs_arr, nI, condT, condF, Bool.not_true, Bool.not_false, Bool.and_true, Bool.true_and, Bool.and_false, Bool.false_and, Bool.or_true, Bool.true_or, Bool.or_false, Bool.false_or, beq_self_eq_true, dTT, dFF, dT, dF, bigI, big0, nilApp, wrapI, wrapU, List.length_set, List.length_replicate, Int.toNat_natCast, castS, castS2, imax, imin, c_impl_Reached]
  have := m_impl_ConeWidth k hk [] (reached a0 a1 b 0 c).isNone ((reached a0 a1 b 0 c).getD []) (by omega) (k + 7) 0 0 (by omega) (by omega) (by omega) (by omega)
  simpa using this
end Go.Proofs.Ytaoffhlajfkccaa
