/- The law of coupled channels answers true. -/
import Derived.Test.YtfgccfajhedgdaaPFC
import Derived.Test.YtfgccfajhedgdaaPCS
namespace Go.Proofs.Ytfgccfajhedgdaa
open Go.Ev
set_option linter.unusedVariables false
set_option linter.unusedSimpArgs false
set_option maxRecDepth 20000
theorem cutAt_append (d : Int) : ∀ a b : List Cell, (∀ x ∈ a, x.1 < d) → (∀ x ∈ b, d ≤ x.1) → cutAt d (a ++ b) = a.length
  | [], [], _, _ => rfl
  | [], x :: b, _, h => by
    have := h x (by simp)
    simp only [List.nil_append, cutAt, List.length_nil]; rw [if_neg (by omega)]
  | x :: a, b, h, h' => by
    have := h x (by simp)
    have IH := cutAt_append d a b (fun y hy => h y (by simp [hy])) h'
    simp only [List.cons_append, cutAt, List.length_cons]; rw [if_pos (by omega), IH]
theorem shiftR_back (d : Int) : ∀ l : List Cell, shiftR (-d) (shiftR d l) = l
  | [] => rfl
  | (a, b, c) :: l => by
    have := shiftR_back d l
    rw [shiftR_cons, shiftR_cons, this]
    show (a + d + -d, b, c) :: l = (a, b, c) :: l
    rw [show a + d + -d = a by omega]
theorem cut_join {r r' : Int} {a b : List Cell} (ha : meshGo r 0 a = true) (hb : meshGo r' 0 b = true) : cutAt r (a ++ shiftR r b) = a.length := by
  refine cutAt_append r a _ (fun x hx => (roots_mem ha x hx).2) (fun x hx => ?_)
  unfold shiftR at hx
  obtain ⟨y, hy, rfl⟩ := List.mem_map.1 hx
  have := (roots_mem hb y hy).1
  show r ≤ y.1 + r
  omega
theorem fc_no (k : Nat) (hk : 2000000 ≤ k) (az : Bool) (a : List Int) (h : (a.length : Int) ≤ 1048576) (a0 : Int) (a1 : List Cell) (a2 a3 a4 : List Int) (b0 : Int) (b1 : List Cell) (b2 b3 b4 : List Int) (p : List Int) (tt : Int) (hp : p.length = 12) (htt : Int.tmod (p.getD 0 0) 32 = tt)
    (n1 : (a1.length : Int) ≤ 1048576) (n2 : (a2.length : Int) ≤ 1048576) (n3 : (a3.length : Int) ≤ 1048576) (n4 : (a4.length : Int) ≤ 1048576) (m1 : (b1.length : Int) ≤ 1048576) (m2 : (b2.length : Int) ≤ 1048576) (m3 : (b3.length : Int) ≤ 1048576) (m4 : (b4.length : Int) ≤ 1048576)
    (eD : go (k + 12) spec_DrawChannels [.arr false az (.ints .u8 a)] = some [.agg [.int .i64 (a0), .arr true (false) (.r3 (a1)), .arr true (false) (.ints .i64 (a2)), .arr true (false) (.ints .i64 (a3)), .arr true (false) (.ints .i64 (a4))], .agg [.int .i64 (b0), .arr true (false) (.r3 (b1)), .arr true (false) (.ints .i64 (b2)), .arr true (false) (.ints .i64 (b3)), .arr true (false) (.ints .i64 (b4))]])
    (eP : go ((k + 9) + 3) spec_DrawPlaces [.arr false az (.ints .u8 a)] = some [.arr true false (.ints .i64 p)])
    (eC : ∀ k, 2000000 ≤ k → go (k + 10) impl_CoupledStep [.agg [.int .i64 (a0), .arr false (false) (.r3 (a1)), .arr false (false) (.ints .i64 (a2)), .arr false (false) (.ints .i64 (a3)), .arr false (false) (.ints .i64 (a4))], .agg [.int .i64 (b0), .arr false (false) (.r3 (b1)), .arr false (false) (.ints .i64 (b2)), .arr false (false) (.ints .i64 (b3)), .arr false (false) (.ints .i64 (b4))], .int .i64 tt] = some [.agg [.int .i64 (a0), .arr true (false) (.r3 (a1)), .arr true (false) (.ints .i64 (a2)), .arr true (false) (.ints .i64 (a3)), .arr true (false) (.ints .i64 (a4))], .agg [.int .i64 (b0), .arr true (false) (.r3 (b1)), .arr true (false) (.ints .i64 (b2)), .arr true (false) (.ints .i64 (b3)), .arr true (false) (.ints .i64 (b4))], .agg [.int .i64 0, .int .i64 0, .int .i64 0, .int .i64 0]])
    (eJ : ∀ k, 2000000 ≤ k → go (k + 10) impl_JoinChannels [.agg [.int .i64 (a0), .arr false (false) (.r3 (a1)), .arr false (false) (.ints .i64 (a2)), .arr false (false) (.ints .i64 (a3)), .arr false (false) (.ints .i64 (a4))], .agg [.int .i64 (b0), .arr false (false) (.r3 (b1)), .arr false (false) (.ints .i64 (b2)), .arr false (false) (.ints .i64 (b3)), .arr false (false) (.ints .i64 (b4))]] = some [emptyS, .bool false])
    (eI : ∀ k, 2000000 ≤ k → go (k + 9) impl_CanJoin [.agg [.int .i64 (a0), .arr false (false) (.r3 (a1)), .arr false (false) (.ints .i64 (a2)), .arr false (false) (.ints .i64 (a3)), .arr false (false) (.ints .i64 (a4))], .agg [.int .i64 (b0), .arr false (false) (.r3 (b1)), .arr false (false) (.ints .i64 (b2)), .arr false (false) (.ints .i64 (b3)), .arr false (false) (.ints .i64 (b4))]] = some [.bool false]) :
    go (k + 13) laws_FnCoupled [.arr false az (.ints .u8 a)] = some [.bool true] := by
  rw [e_laws_FnCoupled]
  simp (disch := omega) only [bindS, nth0, nth1, nth2, nth3, bit, cell0, cell1, cell2, cell3, cell4, cell5, cell6, cell7, cell8, cell9, cell10, cell11, cell12, cell13, cell14, cell15, cell16, cell17, cell18, cell19, cell20, cell21, cell22, cell23, toInt_int, toBool_bool, toStr_str, nil_arr, r3_arr, r4_arr, ints_arr, bools_arr, strs_arr, nI, condT, condF, Bool.not_true, Bool.not_false, Bool.and_true, Bool.true_and, Bool.and_false, Bool.false_and, Bool.or_true, Bool.true_or, Bool.or_false, Bool.false_or, beq_self_eq_true, dTT, dFF, dT, dF, bigI, big0, nilApp, wrapI, wrapU, List.length_set, List.length_replicate, Int.toNat_natCast, castS, castS2, imax, imin, c_laws_big, eD, eP, ton0, htt, eC, eJ, eI, c_spec_SameState, sameS_refl]
theorem fc_yes (k : Nat) (hk : 2000000 ≤ k) (az : Bool) (a : List Int) (h : (a.length : Int) ≤ 1048576) (a0 : Int) (a1 : List Cell) (a2 a3 a4 : List Int) (b0 : Int) (b1 : List Cell) (b2 b3 b4 : List Int) (p : List Int) (tt : Int) (hp : p.length = 12) (htt : Int.tmod (p.getD 0 0) 32 = tt)
    (F : StF a0 a1 a2 a3 a4) (G : StF b0 b1 b2 b3 b4)
    (x2 x3 y2 y3 : List Int) (X : StF a0 a1 x2 x3 a4) (Y : StF b0 b1 y2 y3 b4) (j0 : Int) (j1 : List Cell) (j2 j3 j4 M T : List Int)
    (q0 q1 q2 q3 : Int) (hm : isum x2 = isum a2 + q0 - q1) (ht : isum x3 = isum a3 + q2 - q3) (g0 : 0 ≤ q0 ∧ q0 ≤ 1000000000000000000) (g1 : 0 ≤ q1 ∧ q1 ≤ 1000000000000000000) (g2 : 0 ≤ q2 ∧ q2 ≤ 1000000000000000000) (g3 : 0 ≤ q3 ∧ q3 ≤ 1000000000000000000) (hs : isum x2 + isum y2 = isum a2 + isum b2)
    (eD : go (k + 12) spec_DrawChannels [.arr false az (.ints .u8 a)] = some [.agg [.int .i64 (a0), .arr true (false) (.r3 (a1)), .arr true (false) (.ints .i64 (a2)), .arr true (false) (.ints .i64 (a3)), .arr true (false) (.ints .i64 (a4))], .agg [.int .i64 (b0), .arr true (false) (.r3 (b1)), .arr true (false) (.ints .i64 (b2)), .arr true (false) (.ints .i64 (b3)), .arr true (false) (.ints .i64 (b4))]])
    (eP : go ((k + 9) + 3) spec_DrawPlaces [.arr false az (.ints .u8 a)] = some [.arr true false (.ints .i64 p)])
    (eC : ∀ k, 2000000 ≤ k → go (k + 10) impl_CoupledStep [.agg [.int .i64 (a0), .arr false (false) (.r3 (a1)), .arr false (false) (.ints .i64 (a2)), .arr false (false) (.ints .i64 (a3)), .arr false (false) (.ints .i64 (a4))], .agg [.int .i64 (b0), .arr false (false) (.r3 (b1)), .arr false (false) (.ints .i64 (b2)), .arr false (false) (.ints .i64 (b3)), .arr false (false) (.ints .i64 (b4))], .int .i64 tt] = some [.agg [.int .i64 (a0), .arr true (false) (.r3 (a1)), .arr true (false) (.ints .i64 (x2)), .arr true (false) (.ints .i64 (x3)), .arr true (false) (.ints .i64 (a4))], .agg [.int .i64 (b0), .arr true (false) (.r3 (b1)), .arr true (false) (.ints .i64 (y2)), .arr true (false) (.ints .i64 (y3)), .arr true (false) (.ints .i64 (b4))], .agg [.int .i64 q0, .int .i64 q1, .int .i64 q2, .int .i64 q3]])
    (eJ : ∀ k, 2000000 ≤ k → go (k + 10) impl_JoinChannels [.agg [.int .i64 (a0), .arr false (false) (.r3 (a1)), .arr false (false) (.ints .i64 (a2)), .arr false (false) (.ints .i64 (a3)), .arr false (false) (.ints .i64 (a4))], .agg [.int .i64 (b0), .arr false (false) (.r3 (b1)), .arr false (false) (.ints .i64 (b2)), .arr false (false) (.ints .i64 (b3)), .arr false (false) (.ints .i64 (b4))]] = some [.agg [.int .i64 (j0), .arr true (false) (.r3 (j1)), .arr true (false) (.ints .i64 (j2)), .arr true (false) (.ints .i64 (j3)), .arr true (false) (.ints .i64 (j4))], .bool true])
    (eI : ∀ k, 2000000 ≤ k → go (k + 9) impl_CanJoin [.agg [.int .i64 (a0), .arr false (false) (.r3 (a1)), .arr false (false) (.ints .i64 (a2)), .arr false (false) (.ints .i64 (a3)), .arr false (false) (.ints .i64 (a4))], .agg [.int .i64 (b0), .arr false (false) (.r3 (b1)), .arr false (false) (.ints .i64 (b2)), .arr false (false) (.ints .i64 (b3)), .arr false (false) (.ints .i64 (b4))]] = some [.bool true])
    (eS : ∀ k, 2000000 ≤ k → go (k + 8) spec_StepState [.agg [.int .i64 (j0), .arr false (false) (.r3 (j1)), .arr false (false) (.ints .i64 (j2)), .arr false (false) (.ints .i64 (j3)), .arr false (false) (.ints .i64 (j4))], .int .i64 tt] = some [.agg [.int .i64 (j0), .arr true (false) (.r3 (j1)), .arr true (false) (.ints .i64 (M)), .arr true (false) (.ints .i64 (T)), .arr true (false) (.ints .i64 (j4))]])
    (eK : ∀ k, 2000000 ≤ k → go (k + 9) impl_CutChannel [.agg [.int .i64 (j0), .arr false (false) (.r3 (j1)), .arr false (false) (.ints .i64 (M)), .arr false (false) (.ints .i64 (T)), .arr false (false) (.ints .i64 (j4))], .int .i64 a0] = some [.agg [.int .i64 (a0), .arr true (false) (.r3 (a1)), .arr true (false) (.ints .i64 (x2)), .arr true (false) (.ints .i64 (x3)), .arr true (false) (.ints .i64 (a4))], .agg [.int .i64 (b0), .arr true (false) (.r3 (b1)), .arr true (false) (.ints .i64 (y2)), .arr true (false) (.ints .i64 (y3)), .arr true (false) (.ints .i64 (b4))], .bool true])
    (eK' : ∀ k, 2000000 ≤ k → go (k + 9) impl_CutChannel [.agg [.int .i64 (j0), .arr false (false) (.r3 (j1)), .arr false (false) (.ints .i64 (j2)), .arr false (false) (.ints .i64 (j3)), .arr false (false) (.ints .i64 (j4))], .int .i64 a0] = some [.agg [.int .i64 (a0), .arr true (false) (.r3 (a1)), .arr true (false) (.ints .i64 (a2)), .arr true (false) (.ints .i64 (a3)), .arr true (false) (.ints .i64 (a4))], .agg [.int .i64 (b0), .arr true (false) (.r3 (b1)), .arr true (false) (.ints .i64 (b2)), .arr true (false) (.ints .i64 (b3)), .arr true (false) (.ints .i64 (b4))], .bool true]) :
    go (k + 13) laws_FnCoupled [.arr false az (.ints .u8 a)] = some [.bool true] := by
  rw [e_laws_FnCoupled]
  have := F.len; have := F.ml; have := F.tl; have := F.rr; have := F.bl; have := F.msum; have := F.tsum
  have := G.len; have := G.ml; have := G.tl; have := G.rr; have := G.bl; have := G.msum; have := G.tsum
  have := X.ml; have := X.tl; have := X.msum; have := X.tsum
  have := Y.ml; have := Y.tl; have := Y.msum; have := Y.tsum
  simp (disch := omega) only [bindS, nth0, nth1, nth2, nth3, bit, cell0, cell1, cell2, cell3, cell4, cell5, cell6, cell7, cell8, cell9, cell10, cell11, cell12, cell13, cell14, cell15, cell16, cell17, cell18, cell19, cell20, cell21, cell22, cell23, toInt_int, toBool_bool, toStr_str, nil_arr, r3_arr, r4_arr, ints_arr, bools_arr, strs_arr, nI, condT, condF, Bool.not_true, Bool.not_false, Bool.and_true, Bool.true_and, Bool.and_false, Bool.false_and, Bool.or_true, Bool.true_or, Bool.or_false, Bool.false_or, beq_self_eq_true, dTT, dFF, dT, dF, bigI, big0, nilApp, wrapI, wrapU, List.length_set, List.length_replicate, Int.toNat_natCast, castS, castS2, imax, imin, c_laws_big, eD, eP, ton0, htt, eC, eJ, eI, eS, eK, eK', c_spec_SameState, sameS_refl]
  rw [c_spec_LedgerHolds _ (by omega) _ _ _ _ _ _ _ _ _ _ F X q0 q1 q2 q3 hm ht g0 g1 g2 g3]
  simp (disch := omega) only [bindS, nth0, nth1, nth2, nth3, bit, cell0, cell1, cell2, cell3, cell4, cell5, cell6, cell7, cell8, cell9, cell10, cell11, cell12, cell13, cell14, cell15, cell16, cell17, cell18, cell19, cell20, cell21, cell22, cell23, toInt_int, toBool_bool, toStr_str, nil_arr, r3_arr, r4_arr, ints_arr, bools_arr, strs_arr, nI, condT, condF, Bool.not_true, Bool.not_false, Bool.and_true, Bool.true_and, Bool.and_false, Bool.false_and, Bool.or_true, Bool.true_or, Bool.or_false, Bool.false_or, beq_self_eq_true, dTT, dFF, dT, dF, bigI, big0, nilApp, wrapI, wrapU, List.length_set, List.length_replicate, Int.toNat_natCast, castS, castS2, imax, imin]
  rw [c_spec_TotalMass _ (by omega) _ _ _ _ _ _ _ _ _ F, c_spec_TotalMass _ (by omega) _ _ _ _ _ _ _ _ _ G, c_spec_TotalMass _ (by omega) _ _ _ _ _ _ _ _ _ X, c_spec_TotalMass _ (by omega) _ _ _ _ _ _ _ _ _ Y]
  simp (disch := omega) only [bindS, nth0, nth1, nth2, nth3, bit, cell0, cell1, cell2, cell3, cell4, cell5, cell6, cell7, cell8, cell9, cell10, cell11, cell12, cell13, cell14, cell15, cell16, cell17, cell18, cell19, cell20, cell21, cell22, cell23, toInt_int, toBool_bool, toStr_str, nil_arr, r3_arr, r4_arr, ints_arr, bools_arr, strs_arr, nI, condT, condF, Bool.not_true, Bool.not_false, Bool.and_true, Bool.true_and, Bool.and_false, Bool.false_and, Bool.or_true, Bool.true_or, Bool.or_false, Bool.false_or, beq_self_eq_true, dTT, dFF, dT, dF, bigI, big0, nilApp, wrapI, wrapU, List.length_set, List.length_replicate, Int.toNat_natCast, castS, castS2, imax, imin]
theorem law_FnCoupled (k : Nat) (hk : 2000000 ≤ k) (az : Bool) (a : List Int) : go (k + 13) laws_FnCoupled [(.arr false (az) (.ints IntKind.u8 (a)))] = some [.bool true] := by
  by_cases h : 1048576 < (a.length : Int)
  · rw [e_laws_FnCoupled]; simp (disch := omega) only [bindS, nth0, nth1, nth2, nth3, bit, cell0, cell1, cell2, cell3, cell4, cell5, cell6, cell7, cell8, cell9, cell10, cell11, cell12, cell13, cell14, cell15, cell16, cell17, cell18, cell19, cell20, cell21, cell22, cell23, toInt_int, toBool_bool, toStr_str, nil_arr, r3_arr, r4_arr, ints_arr, bools_arr, strs_arr, nI, condT, condF, Bool.not_true, Bool.not_false, Bool.and_true, Bool.true_and, Bool.and_false, Bool.false_and, Bool.or_true, Bool.true_or, Bool.or_false, Bool.false_or, beq_self_eq_true, dTT, dFF, dT, dF, bigI, big0, nilApp, wrapI, wrapU, List.length_set, List.length_replicate, Int.toNat_natCast, castS, castS2, imax, imin, c_laws_big]
  have h : (a.length : Int) ≤ 1048576 := by omega
  obtain ⟨a0, a1, a2, a3, a4, b0, b1, b2, b3, b4, eD, F, G, r3, r3'⟩ := c_spec_DrawChannels k (by omega) az a h
  obtain ⟨p, eP, hp, hpx⟩ := c_spec_DrawPlaces (k + 9) (by omega) az a h
  have ht0 : 0 ≤ Int.tmod (p.getD 0 0) 32 := Int.tmod_nonneg _ (hpx _ (getD_mem (by omega) 0)).1
  have := F.len; have := F.ml; have := F.tl; have := F.rr; have := F.bl; have := F.msum; have := F.tsum
  have := G.len; have := G.ml; have := G.tl; have := G.rr; have := G.bl; have := G.msum; have := G.tsum
  generalize htt : Int.tmod (p.getD 0 0) 32 = tt at ht0
  cases g : canJoin a0 a1 a2 a3 a4 b0 b1 b2 b3 b4
  · refine fc_no k hk az a h a0 a1 a2 a3 a4 b0 b1 b2 b3 b4 p tt hp htt (by omega) (by omega) (by omega) (by omega) (by omega) (by omega) (by omega) (by omega) eD eP (fun k hk => ?_) (fun k hk => ?_) (fun k hk => ?_)
    · rw [c_impl_CoupledStep k hk _ _ _ _ _ _ _ _ _ _ _ (by omega) (by omega) (by omega) (by omega) (by omega) (by omega) (by omega) (by omega), csOk, g]; rfl
    · rw [c_impl_JoinChannels k hk _ _ _ _ _ _ _ _ _ _ (by omega) (by omega) (by omega) (by omega), g]; rfl
    · rw [c_impl_CanJoin k hk _ _ _ _ _ _ _ _ _ _ _ _ _ _ _ _ _ _ (by omega) (by omega) (by omega) (by omega), g]
  · have J := join_StF g
    have S := step_StF J tt
    have cj := cut_join F.mesh G.mesh
    have tk1 : (a1 ++ shiftR a0 b1).take a1.length = a1 := List.take_left' rfl
    have dr1 : (a1 ++ shiftR a0 b1).drop a1.length = shiftR a0 b1 := List.drop_left' rfl
    have n4 : a0.toNat = a4.length := by omega
    have tk4 : (a4 ++ b4).take a4.length = a4 := List.take_left' rfl
    have dr4 : (a4 ++ b4).drop a4.length = b4 := List.drop_left' rfl
    have tk2 : (a2 ++ b2).take a1.length = a2 := List.take_left' F.ml
    have dr2 : (a2 ++ b2).drop a1.length = b2 := List.drop_left' F.ml
    have tk3 : (a3 ++ b3).take a1.length = a3 := List.take_left' F.tl
    have dr3 : (a3 ++ b3).drop a1.length = b3 := List.drop_left' F.tl
    have br : a0 + b0 - a0 = b0 := by omega
    have ms := step_msum J tt; have ts := step_tsum J tt
    have sm := S.ml; have st := S.tl
    have jl : (a1 ++ shiftR a0 b1).length = a1.length + b1.length := by rw [List.length_append, shiftR_len]
    have jm : (a2 ++ b2).length = a2.length + b2.length := List.length_append ..
    have jt : (a3 ++ b3).length = a3.length + b3.length := List.length_append ..
    have jb : (a4 ++ b4).length = a4.length + b4.length := List.length_append ..
    rw [isum_append] at ms ts
    have eC0 := fun (k : Nat) (hk : 2000000 ≤ k) => c_impl_CoupledStep k hk a0 a1 a2 a3 a4 b0 b1 b2 b3 b4 tt (by omega) (by omega) (by omega) (by omega) (by omega) (by omega) (by omega) (by omega)
    simp only [csOk, g, dT ht0, Bool.and_self, condT, cj, tk1, dr1, shiftR_back, n4, tk4, dr4, br] at eC0
    unfold cM cT at eC0
    generalize eM : tab (a1 ++ shiftR a0 b1).length (stM tt (a1 ++ shiftR a0 b1) (a2 ++ b2) (a4 ++ b4)) = M at *
    generalize eT : tab (a1 ++ shiftR a0 b1).length (stT tt (a1 ++ shiftR a0 b1) (a2 ++ b2) (a3 ++ b3) (a4 ++ b4)) = T at *
    have sA := isum_cut M a1.length; have sB := isum_cut T a1.length
    have sC := isum_drop (by omega) M a1.length S.mmem
    have sC' := isum_le (M.take a1.length) fun x hx => S.mmem x (List.mem_of_mem_take hx)
    have sD := sum_take S a1.length
    have sE := S.sum
    have l1 : (M.take a1.length).length = a1.length := by rw [List.length_take]; omega
    have l2 : (T.take a1.length).length = a1.length := by rw [List.length_take]; omega
    have l3 : (M.drop a1.length).length = b1.length := by rw [List.length_drop]; omega
    have l4 : (T.drop a1.length).length = b1.length := by rw [List.length_drop]; omega
    have X : StF a0 a1 (M.take a1.length) (T.take a1.length) a4 := ⟨F.mesh, F.bal, l1, l2, F.bl, massOk_take _ _ _ S.mt, F.bed, by omega⟩
    have Y : StF b0 b1 (M.drop a1.length) (T.drop a1.length) b4 := ⟨G.mesh, G.bal, l3, l4, G.bl, massOk_drop _ _ _ S.mt, G.bed, by omega⟩
    refine fc_yes k hk az a h a0 a1 a2 a3 a4 b0 b1 b2 b3 b4 p tt hp htt F G _ _ _ _ X Y (a0 + b0) (a1 ++ shiftR a0 b1) (a2 ++ b2) (a3 ++ b3) (a4 ++ b4) M T _ _ _ _ ?_ ?_ ?_ ?_ ?_ ?_ ?_ eD eP eC0 (fun k hk => ?_) (fun k hk => ?_) (fun k hk => ?_) (fun k hk => ?_) (fun k hk => ?_)
    · omega
    · omega
    · omega
    · omega
    · omega
    · omega
    · omega
    · rw [c_impl_JoinChannels k hk _ _ _ _ _ _ _ _ _ _ (by omega) (by omega) (by omega) (by omega), g]; rfl
    · rw [c_impl_CanJoin k hk _ _ _ _ _ _ _ _ _ _ _ _ _ _ _ _ _ _ (by omega) (by omega) (by omega) (by omega), g]
    · rw [c_spec_StepState k hk _ _ _ _ _ _ _ _ _ _ (by omega) (by omega) (by omega) (by omega), stF.2 J, dT ht0, eM, eT]; rfl
    · rw [c_impl_CutChannel k hk _ _ _ _ _ _ (by omega) (by omega), stF.2 S, cj, tk1, dr1, shiftR_back, n4, tk4, dr4, br, show inR a0 1 (a0 + b0 - 1) = true from inR_iff.2 (by omega)]; rfl
    · rw [c_impl_CutChannel k hk _ _ _ _ _ _ (by omega) (by omega), stF.2 J, cj, tk1, dr1, tk2, dr2, tk3, dr3, shiftR_back, n4, tk4, dr4, br, show inR a0 1 (a0 + b0 - 1) = true from inR_iff.2 (by omega)]; rfl
end Go.Proofs.Ytfgccfajhedgdaa
