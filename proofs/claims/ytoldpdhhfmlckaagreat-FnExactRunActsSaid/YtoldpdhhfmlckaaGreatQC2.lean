/- What the program's functions compute, and plain facts of it (part 2). No condition beyond those that each theorem states. -/
import Derived.Test.YtoldpdhhfmlckaaGreatQC1
set_option linter.unusedVariables false
set_option linter.unusedSimpArgs false
section
namespace Go.Proofs.YtoldpdhhfmlckaaGreat
open Go.Ev
set_option maxRecDepth 20000
theorem qoc (tk : Int) (l : List Cell) (m b : List Int) {j : Nat} (hj : j < l.length) : m.getD j 0 + gk (rgt tk l m b) (lft tk l m b) l.length j = stM tk l m b j := by
  have e1 : lft tk l m b (j + 1) = max 0 (0 - ff tk l m b j) := by unfold lft; rw [if_pos (by omega), Nat.add_sub_cancel]
  have e2 : rgt tk l m b j = max 0 (ff tk l m b j) := rfl
  have e3 : (if j + 1 < l.length then lft tk l m b (j + 1) else 0) = max 0 (0 - ff tk l m b j) := by
    by_cases g : j + 1 < l.length
    · rw [if_pos g, e1]
    · rw [if_neg g, qn1 (by omega)]; rfl
  unfold gk stM
  rw [if_pos hj, e3, e2]
  by_cases g : 1 ≤ j
  · have e4 : lft tk l m b j = max 0 (0 - ff tk l m b (j - 1)) := by unfold lft; rw [if_pos g]
    have e5 : rgt tk l m b (j - 1) = max 0 (ff tk l m b (j - 1)) := rfl
    rw [if_pos (by omega), if_pos g, e4, e5]; omega
  · have e4 : lft tk l m b j = 0 := by unfold lft; rw [if_neg g]
    rw [if_neg (by omega), if_neg g, e4]; omega
theorem qod (tk : Int) (l : List Cell) (m t b : List Int) {j : Nat} (hj : j < l.length) : t.getD j 0 + gk (outA tk l m t b) (outB tk l m t b) l.length j = stT tk l m t b j := by
  have e3 : (if j + 1 < l.length then outB tk l m t b (j + 1) else 0) = outB tk l m t b (j + 1) := by
    by_cases g : j + 1 < l.length
    · rw [if_pos g]
    · rw [if_neg g, quj]
      unfold lft
      rw [if_pos (by omega), Nat.add_sub_cancel, qn1 (by omega)]; rfl
  unfold gk stT
  rw [if_pos hj, e3]
  by_cases g : 1 ≤ j
  · rw [if_pos (by omega), if_pos g]; omega
  · rw [if_neg (by omega), if_neg g]; omega
theorem qsj (k : Nat) (hk : 2000000 ≤ k) (fu : List (Nat × Nat)) (a0 : Int) (a1z : Bool) (a1 : List Cell) (a2z : Bool) (a2 : List Int) (a3z : Bool) (a3 : List Int) (a4z : Bool) (a4 : List Int) (z1 z2 z3 z4 : Bool) (r : Int) (l : List Cell) (m t b : List Int) (tk : Int) (F : StF r l m t b) : ∀ (n i : Nat), i ≤ l.length → l.length - i < n →
    lp (k + 5) impl_State_move [(.ptr true [(.int .i64 (a0)), (.arr true (a1z) (.r3 (a1))), (.arr true (a2z) (.ints .i64 (a2))), (.arr true (a3z) (.ints .i64 (a3))), (.arr true (a4z) (.ints .i64 (a4)))])] fu 19 (n) (qwe (l.length : Int) (i : Int) z1 l z2 (tab l.length (fun j => if j < i then stM tk l m b j else m.getD j 0)) z3 (tab l.length (fun j => if j < i then stT tk l m t b j else t.getD j 0)) z4 b r false (tab l.length (gk (rgt tk l m b) (lft tk l m b) l.length)) false (tab l.length (gk (outA tk l m t b) (outB tk l m t b) l.length))) =
      some [.ptr true [.int .i64 (r), .arr true (z1) (.r3 (l)), .arr true (z2) (.ints .i64 (tab l.length (stM tk l m b))), .arr true (z3) (.ints .i64 (tab l.length (stT tk l m t b))), .arr true (z4) (.ints .i64 (b))]]
  | 0, i, hi, hn => by omega
  | n + 1, i, hi, hn => by
    have hl := F.len
    rw [qpm]
    by_cases h : i < l.length
    · have IH := qsj k hk fu a0 a1z a1 a2z a2 a3z a3 a4z a4 z1 z2 z3 z4 r l m t b tk F n (i + 1) (by omega) (by omega)
      have q1 : tab l.length (fun j => if j = i then stM tk l m b i else if j < i then stM tk l m b j else m.getD j 0) = tab l.length (fun j => if j < i + 1 then stM tk l m b j else m.getD j 0) := qy8 fun j hj => by
        by_cases e : j = i
        · subst e; rw [if_pos rfl, if_pos (by omega)]
        · rw [if_neg e]
          by_cases e2 : j < i
          · rw [if_pos e2, if_pos (by omega)]
          · rw [if_neg e2, if_neg (by omega)]
      have q2 : tab l.length (fun j => if j = i then stT tk l m t b i else if j < i then stT tk l m t b j else t.getD j 0) = tab l.length (fun j => if j < i + 1 then stT tk l m t b j else t.getD j 0) := qy8 fun j hj => by
        by_cases e : j = i
        · subst e; rw [if_pos rfl, if_pos (by omega)]
        · rw [if_neg e]
          by_cases e2 : j < i
          · rw [if_pos e2, if_pos (by omega)]
          · rw [if_neg e2, if_neg (by omega)]
      rw [← q1, ← q2] at IH
      have B1 := qoe (A := rgt tk l m b) (B := lft tk l m b) (C := 2500000) (fun j => by have := rgtB F tk j; omega) (fun j => by have := lftB F tk j; omega) l.length i
      have B2 := qoe (A := outA tk l m t b) (B := outB tk l m t b) (C := 100000000000000000) (fun j => by have := qug tk l m t b j; omega) (fun j => qui tk l m t b j) l.length i
      have a := F.at i
      have v1 : (if i < i then stM tk l m b i else m.getD i 0) = m.getD i 0 := if_neg (by omega)
      have v2 : (if i < i then stT tk l m t b i else t.getD i 0) = t.getD i 0 := if_neg (by omega)
      have e1 := qoc tk l m b h
      have e2 := qod tk l m t b h
      simp (disch := omega) only [dT, nI, qza, Bool.and_true, qgr, q0f, Int.toNat_natCast, qy9, v1, e1, qzc, v2, e2, qhn]
      exact IH
    · simp (disch := omega) only [dF, dT, nI, qza, Bool.and_false, qgr, q0f, Int.toNat_natCast, qhl]
      have q1 : tab l.length (fun j => if j < i then stM tk l m b j else m.getD j 0) = tab l.length (stM tk l m b) := qy8 fun j hj => by rw [if_pos (by omega)]
      have q2 : tab l.length (fun j => if j < i then stT tk l m t b j else t.getD j 0) = tab l.length (stT tk l m t b) := qy8 fun j hj => by rw [if_pos (by omega)]
      rw [q1, q2]
theorem qas {tk : Int} {l : List Cell} : (∀ i ∈ acts tk l, i + 1 < l.length ∧ qor tk (qnw l i) = true) ∧ (acts tk l).length ≤ l.length - 1 := by
  refine ⟨fun i hi => ?_, qao tk l _ _⟩
  unfold acts at hi
  rw [qap] at hi
  exact ⟨by omega, hi.2⟩
theorem qn3 {tk : Int} {l : List Cell} {m b : List Int} {i : Nat} (h : i ∉ acts tk l) : ff tk l m b i = 0 := by
  unfold acts at h
  rw [qap] at h
  unfold ff qam
  by_cases g : i + 1 < l.length
  · have : qor tk (qnw l i) = false := by
      rw [← Bool.not_eq_true]
      exact fun e => h ⟨⟨by omega, by omega⟩, e⟩
    rw [this]; simp
  · rw [dF g]; rfl
theorem qag (tk : Int) (l : List Cell) (m b : List Int) : tab l.length (Rk tk l m b (acts tk l)) = tab l.length (rgt tk l m b) := qy8 fun j hj => by
  unfold Rk
  by_cases g : j ∈ acts tk l
  · rw [if_pos g]
  · rw [if_neg g]; unfold rgt; rw [qn3 g]; rfl
theorem qac (tk : Int) (l : List Cell) (m b : List Int) : tab l.length (Lk tk l m b (acts tk l)) = tab l.length (lft tk l m b) := qy8 fun j hj => by
  unfold Lk
  by_cases g : 1 ≤ j ∧ j - 1 ∈ acts tk l
  · rw [if_pos g]
  · rw [if_neg g]; unfold lft
    by_cases g2 : 1 ≤ j
    · rw [if_pos g2, qn3 (fun e => g ⟨g2, e⟩)]; rfl
    · rw [if_neg g2]
theorem qah (tk : Int) (l : List Cell) (m b : List Int) : List.replicate l.length (0 : Int) = tab l.length (Rk tk l m b []) := by
  rw [qze]
  exact qy8 fun j hj => by unfold Rk; rw [if_neg (by simp)]
theorem qad (tk : Int) (l : List Cell) (m b : List Int) : List.replicate l.length (0 : Int) = tab l.length (Lk tk l m b []) := by
  rw [qze]
  exact qy8 fun j hj => by unfold Lk; rw [if_neg (by simp)]
theorem qc5 (k : Nat) (hk : 2000000 ≤ k) (z1 z2 z3 z4 z5 : Bool) (r : Int) (l : List Cell) (m t b : List Int) (tk : Int) (F : StF r l m t b) :
    go (k + 6) impl_State_move [.ptr true [.int .i64 (r), .arr true (z1) (.r3 (l)), .arr true (z2) (.ints .i64 (m)), .arr true (z3) (.ints .i64 (t)), .arr true (z4) (.ints .i64 (b))], .arr false z5 (.ints .i64 (nats (acts tk l)))] = some [.ptr true [.int .i64 (r), .arr true (z1) (.r3 (l)), .arr true (z2) (.ints .i64 (tab l.length (stM tk l m b))), .arr true (z3) (.ints .i64 (tab l.length (stT tk l m t b))), .arr true (z4) (.ints .i64 (b))]] := by
  rw [qjm]
  have hl := F.len; have hm := F.ml; have ht := F.tl
  have ao := qas (tk := tk) (l := l)
  have e1 := qsk k hk [] r z1 l z2 m z3 t z4 b z1 z2 z3 z4 z5 r l m t b tk F (acts tk l) ao.1 (by omega) (k + 5) 0 (by omega) (by omega)
  have e2 := qsi k hk [] r z1 l z2 m z3 t z4 b z1 z2 z3 z4 r l m t b tk F (k + 5) 0 (by omega) (by omega)
  have e3 := qsj k hk [] r z1 l z2 m z3 t z4 b z1 z2 z3 z4 r l m t b tk F (k + 5) 0 (by omega) (by omega)
  rw [List.take_zero, ← qah, ← qad, qag, qac] at e1
  rw [← qog, ← qog] at e2
  have q1 : tab l.length (fun j => if j < 0 then stM tk l m b j else m.getD j 0) = m := by
    refine Eq.trans (qy8 fun j hj => ?_) (hm ▸ (qzb m).symm)
    rw [if_neg (by omega)]
  have q2 : tab l.length (fun j => if j < 0 then stT tk l m t b j else t.getD j 0) = t := by
    refine Eq.trans (qy8 fun j hj => ?_) (ht ▸ (qzb t).symm)
    rw [if_neg (by omega)]
  rw [q1, q2] at e3
  have nl := qt7 (acts tk l)
  simp (disch := omega) only [nI, hm, dT, Bool.and_true, big0, nl, Int.toNat_natCast, qhn]
  exact e1.trans (e2.trans e3)
end Go.Proofs.YtoldpdhhfmlckaaGreat
end
section
namespace Go.Proofs.YtoldpdhhfmlckaaGreat
open Go.Ev
theorem ql2 (k : Nat) (a0 a1 a2 b : Int) : go (k + 1) spec_ChildOf [(.agg [(.int .i64 (a0)), (.int .i64 (a1)), (.int .i64 (a2))]), (.int .i64 (b))] =
 (go k spec_IdOk [(.agg [(.int .i64 (a0)), (.int .i64 (a1)), (.int .i64 (a2))])]).bind fun r0 =>
 cond (!bit (nth r0 0))
 (some [(.agg [(.int .i64 (0 : Int)), (.int .i64 (0 : Int)), (.int .i64 (0 : Int))]), (.bool (false))])
 (cond (decide (a1 = (4 : Int)))
 (some [(.agg [(.int .i64 (0 : Int)), (.int .i64 (0 : Int)), (.int .i64 (0 : Int))]), (.bool (false))])
 ((go k spec_l01In [(.int .i64 (b)), (.int .i64 (0 : Int)), (.int .i64 ((1 : Int)))]).bind fun r1 =>
 cond (!bit (nth r1 0))
 (some [(.agg [(.int .i64 (0 : Int)), (.int .i64 (0 : Int)), (.int .i64 (0 : Int))]), (.bool (false))])
 (some [(.agg [(.int .i64 (a0)), (.int .i64 (IntKind.wrap .i64 (a1 + (1 : Int)))), (.int .i64 (IntKind.wrap .i64 (IntKind.wrap .i64 ((2 : Int) * a2) + b)))]), (.bool (true))]))) := by kernel_rfl
theorem qmx (k : Nat) (a0 : Int) (a1z : Bool) (a1 : List (Int × Int × Int)) (b : Int) : go (k + 1) spec_l05Coarser [(.agg [(.int .i64 (a0)), (.arr false (a1z) (.r3 (a1)))]), (.int .i64 (b))] =
 cond (decide ((0 : Int) ≤ b) && decide (b < nI (List.length a1)))
 (cond (decide ((0 : Int) ≤ IntKind.wrap .i64 (b + (1 : Int))) && decide (IntKind.wrap .i64 (b + (1 : Int)) < nI (List.length a1)))
 (cond (decide (Prod.fst (Prod.snd (List.getD a1 (Int.toNat (IntKind.wrap .i64 (b + (1 : Int)))) zz3)) < Prod.fst (Prod.snd (List.getD a1 (Int.toNat b) zz3))))
 (some [(.int .i64 (IntKind.wrap .i64 (b + (1 : Int))))])
 (some [(.int .i64 (b))]))
 (none))
 (none) := by kernel_rfl
theorem qm0 (k : Nat) (a0 : Int) (a1z : Bool) (a1 : List (Int × Int × Int)) (b : Int) : go (k + 1) spec_l05Split [(.agg [(.int .i64 (a0)), (.arr false (a1z) (.r3 (a1)))]), (.int .i64 (b))] =
 cond (decide ((0 : Int) ≤ b) && decide (b < nI (List.length a1)))
 ((go k spec_ChildOf [(.agg [(.int .i64 (Prod.fst (List.getD a1 (Int.toNat b) zz3))), (.int .i64 (Prod.fst (Prod.snd (List.getD a1 (Int.toNat b) zz3)))), (.int .i64 (Prod.snd (Prod.snd (List.getD a1 (Int.toNat b) zz3))))]), (.int .i64 (0 : Int))]).bind fun r0 =>
 cond (decide ((0 : Int) ≤ b) && decide (b < nI (List.length a1)))
 ((go k spec_ChildOf [(.agg [(.int .i64 (Prod.fst (List.getD a1 (Int.toNat b) zz3))), (.int .i64 (Prod.fst (Prod.snd (List.getD a1 (Int.toNat b) zz3)))), (.int .i64 (Prod.snd (Prod.snd (List.getD a1 (Int.toNat b) zz3))))]), (.int .i64 ((1 : Int)))]).bind fun r1 =>
 cond (decide ((0 : Int) ≤ (0 : Int)) && decide ((0 : Int) ≤ b) && decide (b ≤ nI (List.length a1)))
 (cond (decide (List.length ([] ++ List.take (Int.toNat b - Int.toNat (0 : Int)) (List.drop (0 + Int.toNat (0 : Int)) a1)) ≤ bigLen))
 (cond (decide (List.length ([] ++ List.take (Int.toNat b - Int.toNat (0 : Int)) (List.drop (0 + Int.toNat (0 : Int)) a1) ++ [(D.toInt (D.cell 0 (nth r0 0)), D.toInt (D.cell 1 (nth r0 0)), D.toInt (D.cell 2 (nth r0 0))), (D.toInt (D.cell 0 (nth r1 0)), D.toInt (D.cell 1 (nth r1 0)), D.toInt (D.cell 2 (nth r1 0)))]) ≤ bigLen))
 (cond (decide ((0 : Int) ≤ IntKind.wrap .i64 (b + (1 : Int))) && decide (IntKind.wrap .i64 (b + (1 : Int)) ≤ nI (List.length a1)) && decide (nI (List.length a1) ≤ nI (List.length a1)))
 (cond (decide (List.length ([] ++ List.take (Int.toNat b - Int.toNat (0 : Int)) (List.drop (0 + Int.toNat (0 : Int)) a1) ++ [(D.toInt (D.cell 0 (nth r0 0)), D.toInt (D.cell 1 (nth r0 0)), D.toInt (D.cell 2 (nth r0 0))), (D.toInt (D.cell 0 (nth r1 0)), D.toInt (D.cell 1 (nth r1 0)), D.toInt (D.cell 2 (nth r1 0)))] ++ List.take (Int.toNat (nI (List.length a1)) - Int.toNat (IntKind.wrap .i64 (b + (1 : Int)))) (List.drop (0 + Int.toNat (IntKind.wrap .i64 (b + (1 : Int)))) a1)) ≤ bigLen))
 (some [(.agg [(.int .i64 (a0)), (.arr true (false && decide (List.length ([] ++ List.take (Int.toNat b - Int.toNat (0 : Int)) (List.drop (0 + Int.toNat (0 : Int)) a1)) = 0) && decide (List.length ([] ++ List.take (Int.toNat b - Int.toNat (0 : Int)) (List.drop (0 + Int.toNat (0 : Int)) a1) ++ [(D.toInt (D.cell 0 (nth r0 0)), D.toInt (D.cell 1 (nth r0 0)), D.toInt (D.cell 2 (nth r0 0))), (D.toInt (D.cell 0 (nth r1 0)), D.toInt (D.cell 1 (nth r1 0)), D.toInt (D.cell 2 (nth r1 0)))]) = 0) && decide (List.length ([] ++ List.take (Int.toNat b - Int.toNat (0 : Int)) (List.drop (0 + Int.toNat (0 : Int)) a1) ++ [(D.toInt (D.cell 0 (nth r0 0)), D.toInt (D.cell 1 (nth r0 0)), D.toInt (D.cell 2 (nth r0 0))), (D.toInt (D.cell 0 (nth r1 0)), D.toInt (D.cell 1 (nth r1 0)), D.toInt (D.cell 2 (nth r1 0)))] ++ List.take (Int.toNat (nI (List.length a1)) - Int.toNat (IntKind.wrap .i64 (b + (1 : Int)))) (List.drop (0 + Int.toNat (IntKind.wrap .i64 (b + (1 : Int)))) a1)) = 0)) (.r3 ([] ++ List.take (Int.toNat b - Int.toNat (0 : Int)) (List.drop (0 + Int.toNat (0 : Int)) a1) ++ [(D.toInt (D.cell 0 (nth r0 0)), D.toInt (D.cell 1 (nth r0 0)), D.toInt (D.cell 2 (nth r0 0))), (D.toInt (D.cell 0 (nth r1 0)), D.toInt (D.cell 1 (nth r1 0)), D.toInt (D.cell 2 (nth r1 0)))] ++ List.take (Int.toNat (nI (List.length a1)) - Int.toNat (IntKind.wrap .i64 (b + (1 : Int)))) (List.drop (0 + Int.toNat (IntKind.wrap .i64 (b + (1 : Int)))) a1))))])])
 (none))
 (none))
 (none))
 (none))
 (none))
 (none))
 (none) := by kernel_rfl
end Go.Proofs.YtoldpdhhfmlckaaGreat
end
section
namespace Go.Proofs.YtoldpdhhfmlckaaGreat
open Go.Ev
set_option maxRecDepth 20000
theorem quw (o : Bool) (d0 : D) (l : List D) : (D.ptr o (d0 :: l)).cell 0 = d0 := Eq.trans rfl rfl
theorem qux (o : Bool) (d0 d1 : D) (l : List D) : (D.ptr o (d0 :: d1 :: l)).cell 1 = d1 := Eq.trans rfl rfl
theorem quy (o : Bool) (d0 d1 d2 : D) (l : List D) : (D.ptr o (d0 :: d1 :: d2 :: l)).cell 2 = d2 := Eq.trans rfl rfl
theorem qez (k : Nat) (hk : 2000000 ≤ k) (r v ix b : Int) (hid : idOk r v ix = true) (hv : v < 4) (hb : b = 0 ∨ b = 1) : go (k + 3) spec_ChildOf [.agg [.int .i64 r, .int .i64 v, .int .i64 ix], .int .i64 b] = some [.agg [.int .i64 r, .int .i64 (v + 1), .int .i64 (2 * ix + b)], .bool true] := by
  rw [ql2]
  have h := qol.1 hid
  have hp : pow2 v ≤ 16 := by
    rcases lev (qoo.2 h.2.1) with rfl | rfl | rfl | rfl | rfl <;> decide
  have hi : inR b 0 1 = true := qoo.2 (by omega)
  simp (disch := omega) only [qe6, hid, bit, dF, qfu, hi, q0f, qa2, nth0, qzn, Bool.not_true, qhl]
end Go.Proofs.YtoldpdhhfmlckaaGreat
end
section
namespace Go.Proofs.YtoldpdhhfmlckaaGreat
open Go.Ev
set_option maxRecDepth 20000
theorem qfx (k : Nat) (hk : 2000000 ≤ k) (a0 : Int) (a1z : Bool) (a1 : List Cell) (i : Nat) (hl : (a1.length : Int) ≤ 1048576) (hi : i + 1 < a1.length) : go (k + 1) spec_l05Coarser [.agg [.int .i64 a0, .arr false a1z (.r3 a1)], .int .i64 (i : Int)] = some [.int .i64 ((qhi a1 i : Nat) : Int)] := by
  rw [qmx]
  unfold qhi
  simp (disch := omega) only [dT, nI, Bool.and_true, qgr, q0f, Int.toNat_natCast, qhn]
  by_cases g : qq8 a1 (i + 1) < qq8 a1 i
  · rw [if_pos g]; simp only [qq8] at g; simp (disch := omega) only [dT, qhn]
  · rw [if_neg g]; simp only [qq8] at g; simp (disch := omega) only [dF, qhl]
theorem qzf {α : Type} (l : List α) (i : Nat) : List.take (l.length - i) (List.drop i l) = l.drop i := by
  apply List.take_of_length_le; rw [List.length_drop]; omega
theorem ton0 : Int.toNat 0 = 0 := Eq.trans rfl rfl
theorem qf0 (k : Nat) (hk : 2000000 ≤ k) (a0 : Int) (a1z : Bool) (a1 : List Cell) (i : Nat) (hl : (a1.length : Int) ≤ 1000000) (hi : i < a1.length) (hid : idOk (a1.getD i zz3).1 (a1.getD i zz3).2.1 (a1.getD i zz3).2.2 = true) (hv : (a1.getD i zz3).2.1 < 4) : go (k + 4) spec_l05Split [.agg [.int .i64 a0, .arr false a1z (.r3 a1)], .int .i64 (i : Int)] = some [.agg [.int .i64 a0, .arr true false (.r3 (qyh a1 i))]] := by
  rw [qm0]
  have cA := qez k (by omega) _ _ _ 0 hid hv (Or.inl rfl)
  have cB := qez k (by omega) _ _ _ 1 hid hv (Or.inr rfl)
  rw [Int.add_zero] at cA
  have l1 : (a1.take i).length = i := by rw [List.length_take]; omega
  have l2 : ∀ x y : Cell, (a1.take i ++ [x, y]).length = i + 2 := fun x y => by rw [List.length_append, l1]; rfl
  have l3 : ∀ x y : Cell, (a1.take i ++ [x, y] ++ a1.drop (i + 1)).length = a1.length + 1 := fun x y => by rw [List.length_append, l2, List.length_drop]; omega
  simp (disch := omega) only [dT, nI, Bool.and_true, Int.toNat_natCast, cA, cB, ton0, Nat.sub_zero, Nat.zero_add, List.drop_zero, qt8, l1, big0, l2, qgr, q0f, qzf, l3, Bool.false_and, dF, Bool.and_false, qhn, qa2, nth0, qgt, qzo, qgu, qg5]
  rw [List.append_assoc]; rfl
end Go.Proofs.YtoldpdhhfmlckaaGreat
end
section
namespace Go.Proofs.YtoldpdhhfmlckaaGreat
open Go.RowKit Go.Lib Go.Ev Go.Shelf
def qai (Q : Nat → Ending → World → Prop) (en : Ending) (w' : World) : Prop := ∃ q, Q q en w'

theorem qok : (Tryz.prog.info? 3).map (fun i => (i.zero, i.size, i.bytes)) = some (some (.int .i64 0), 1, 8) := by kernel_rfl
theorem qy7 : (Tryz.prog.info? 3).map (·.size) = some 1 := by kernel_rfl
theorem qzq : Tryz.prog.underlying 27 = some (.slice 3) := by kernel_rfl
theorem qyy : ∀ w, (Go.sizeOf 3).run Tryz.prog w = .ok 1 w := fun w => by
  obtain ⟨i0, hi, h0, h1, h2⟩ := info_parts qok
  simp [Go.sizeOf, typeInfo, hi, h1]

set_option maxHeartbeats 4000000 in
set_option maxRecDepth 100000 in
theorem qvd (g n c i j m vc c1 : Nat) (a b1 : Addr) (w w1 : World) (hij : i < j) (hj : j = n) (hnc : n ≤ c) (hn : n ≤ 1099511627776) (hc : c ≤ 9223372036854775807) (hm : n ≤ i + m) (hmb : m ≤ 1099511627776)
    (hr : (Builtin.append_ #[27, 27] 27 #[.slice (some ⟨g, 0, none⟩) i c, .slice (some a) m vc]).run Tryz.prog w = .ok (.slice (some b1) (i + m) c1) w1) :
    Calls Tryz.prog 240 #[.slice (some ⟨g, 0, none⟩) n c, .int .i64 i, .int .i64 j, .slice (some a) m vc] w fun en w' => en = .returned (.slice (some b1) (i + m) c1) ∧ w' = w1 := by
  subst hj
  have t0 := qzq
  have hz1 : ¬ ((i : Int) = (j : Int)) := by omega
  have hb6 : j ≤ j := by omega
  have hb7 : (j : Int) ≤ (j : Int) := by omega
  have mixed : Tryz.prog.follows Departure.mixedOrders = true := by kernel_rfl
  have hlen : IntKind.i64.wrap ((i : Int) + (m : Int)) = (i : Int) + (m : Int) := by rw [IntKind.wrap_i64]; omega
  have hb1 : (0 : Int) ≤ (i : Int) + (m : Int) := by omega
  have htn : ((i : Int) + (m : Int)).toNat = i + m := by omega
  have hb8 : ¬ ((i + m : Nat) < j) := by omega
  go_enter Tryz.func240, Tryz.ntmps240
  go_wp2_with (at_builtin; refine Lib.wpList_append_run _ rfl _ _ _ _ rfl _ _ rfl rfl _ _ hr ?_)
  go_ret
  exact ⟨rfl, rfl⟩
set_option maxHeartbeats 4000000 in
set_option maxRecDepth 100000 in
theorem qvb (g n c i j m vc c1 : Nat) (a b1 : Addr) (w w1 w2 : World) (hij : i < j) (hj : j = n) (hnc : n ≤ c) (hn : n ≤ 1099511627776) (hc : c ≤ 9223372036854775807) (hm : i + m < n) (hmb : m ≤ 1099511627776)
    (hr : (Builtin.append_ #[27, 27] 27 #[.slice (some ⟨g, 0, none⟩) i c, .slice (some a) m vc]).run Tryz.prog w = .ok (.slice (some b1) (i + m) c1) w1)
    (hk : ∀ ty kc, (Builtin.clear_ #[27] ty #[.slice (some ⟨g, i + m, none⟩) (n - (i + m)) kc]).run Tryz.prog w1 = .ok (.tuple #[]) w2) :
    Calls Tryz.prog 240 #[.slice (some ⟨g, 0, none⟩) n c, .int .i64 i, .int .i64 j, .slice (some a) m vc] w fun en w' => en = .returned (.slice (some b1) (i + m) c1) ∧ w' = w2 := by
  subst hj
  have t0 := qzq
  have hz1 : ¬ ((i : Int) = (j : Int)) := by omega
  have hb6 : j ≤ j := by omega
  have hb7 : (j : Int) ≤ (j : Int) := by omega
  have mixed : Tryz.prog.follows Departure.mixedOrders = true := by kernel_rfl
  have hlen : IntKind.i64.wrap ((i : Int) + (m : Int)) = (i : Int) + (m : Int) := by rw [IntKind.wrap_i64]; omega
  have hb1 : (0 : Int) ≤ (i : Int) + (m : Int) := by omega
  have htn : ((i : Int) + (m : Int)).toNat = i + m := by omega
  have hb8 : (i + m : Nat) < j := by omega
  have hb9 : ¬ (c = i + m) := by omega
  go_enter Tryz.func240, Tryz.ntmps240
  go_wp2_with (at_builtin; refine Lib.wpList_append_run _ rfl _ _ _ _ rfl _ _ rfl rfl _ _ hr ?_)
  go_ret
  exact ⟨rfl, rfl⟩
set_option maxHeartbeats 4000000 in
set_option maxRecDepth 100000 in
theorem qvl (g n c i j m vc : Nat) (a : Addr) (w : World) (W1 W2 : Nat → World) (hij : i < j) (hj : j < n) (hnc : n ≤ c) (hn : n ≤ 1099511627776) (hc : c ≤ 9223372036854775807) (hm : j < i + m) (hmb : m ≤ 1099511627776) (hroom : i + m + (n - j) ≤ c)
    (hov : ∀ q lb cb, (callFunc 257 #[.slice (some ⟨g, i + m, none⟩) lb cb, .slice (some a) m vc]).run Tryz.prog (w.drewN q) = .ok (.value (.bool false)) (w.drewN q))
    (hcpa : ∀ q ty dc sc, (Builtin.copy_ #[27, 27] ty #[.slice (some ⟨g, i + m, none⟩) (n - j) dc, .slice (some ⟨g, j, none⟩) (n - j) sc]).run Tryz.prog (w.drewN q) = .ok (goInt (n - j : Nat)) (W1 q))
    (hcpb : ∀ q ty dc, (Builtin.copy_ #[27, 27] ty #[.slice (some ⟨g, i, none⟩) (i + m + (n - j) - i) dc, .slice (some a) m vc]).run Tryz.prog (W1 q) = .ok (goInt m) (W2 q)) :
    Calls Tryz.prog 240 #[.slice (some ⟨g, 0, none⟩) n c, .int .i64 i, .int .i64 j, .slice (some a) m vc] w (qai fun q en w' => en = .returned (.slice (some ⟨g, 0, none⟩) (i + m + (n - j)) c) ∧ w' = W2 q) := by
  have t0 := qzq
  have hz1 : ¬ ((i : Int) = (j : Int)) := by omega
  have hb6 : j ≤ n := by omega
  have hb7 : (j : Int) ≤ (n : Int) := by omega
  have mixed : Tryz.prog.follows Departure.mixedOrders = true := by kernel_rfl
  have hlen : IntKind.i64.wrap ((i : Int) + (m : Int)) = (i : Int) + (m : Int) := by rw [IntKind.wrap_i64]; omega
  have hb1 : (0 : Int) ≤ (i : Int) + (m : Int) := by omega
  have htn : ((i : Int) + (m : Int)).toNat = i + m := by omega
  have hz2 : ¬ ((j : Int) = (n : Int)) := by omega
  have hci : ¬ (c = i) := by omega
  have hcj : ¬ (c = j) := by omega
  have hw0 : IntKind.i64.wrap ((i : Int) + (m : Int) + ((n - j : Nat) : Int)) = (i : Int) + (m : Int) + ((n - j : Nat) : Int) := by rw [IntKind.wrap_i64]; omega
  have hb3 : (i : Int) + (m : Int) ≤ (i : Int) + (m : Int) + ((n - j : Nat) : Int) := by omega
  have hb4 : (i : Int) ≤ (i : Int) + (m : Int) + ((n - j : Nat) : Int) := by omega
  have hcm : ¬ (c = i + m) := by omega
  go_enter Tryz.func240, Tryz.ntmps240
  go_wp2_with fail
  go_quiet (fail)
  go_wp2_with (simp only [hov])
  go_region_law_o (fail)
  go_wp2
  go_ret
  exact ⟨_, rfl, rfl⟩
set_option maxHeartbeats 4000000 in
set_option maxRecDepth 100000 in
theorem qvh (g n c i j m vc : Nat) (a : Addr) (w : World) (W1 W2 W3 : Nat → World) (hij : i < j) (hj : j < n) (hnc : n ≤ c) (hn : n ≤ 1099511627776) (hc : c ≤ 9223372036854775807) (hm : i + m < j) (hmb : m ≤ 1099511627776)
    (hcpa : ∀ q ty dc, (Builtin.copy_ #[27, 27] ty #[.slice (some ⟨g, i, none⟩) (i + m + (n - j) - i) dc, .slice (some a) m vc]).run Tryz.prog (w.drewN q) = .ok (goInt m) (W1 q))
    (hcpb : ∀ q ty dc sc, (Builtin.copy_ #[27, 27] ty #[.slice (some ⟨g, i + m, none⟩) (n - j) dc, .slice (some ⟨g, j, none⟩) (n - j) sc]).run Tryz.prog (W1 q).drew = .ok (goInt (n - j : Nat)) (W2 q))
    (hk : ∀ q ty kc, (Builtin.clear_ #[27] ty #[.slice (some ⟨g, i + m + (n - j), none⟩) (n - (i + m + (n - j))) kc]).run Tryz.prog (W2 q) = .ok (.tuple #[]) (W3 q)) :
    Calls Tryz.prog 240 #[.slice (some ⟨g, 0, none⟩) n c, .int .i64 i, .int .i64 j, .slice (some a) m vc] w (qai fun q en w' => en = .returned (.slice (some ⟨g, 0, none⟩) (i + m + (n - j)) c) ∧ w' = W3 q) := by
  have t0 := qzq
  have hz1 : ¬ ((i : Int) = (j : Int)) := by omega
  have hb6 : j ≤ n := by omega
  have hb7 : (j : Int) ≤ (n : Int) := by omega
  have mixed : Tryz.prog.follows Departure.mixedOrders = true := by kernel_rfl
  have hlen : IntKind.i64.wrap ((i : Int) + (m : Int)) = (i : Int) + (m : Int) := by rw [IntKind.wrap_i64]; omega
  have hb1 : (0 : Int) ≤ (i : Int) + (m : Int) := by omega
  have htn : ((i : Int) + (m : Int)).toNat = i + m := by omega
  have hz2 : ¬ ((j : Int) = (n : Int)) := by omega
  have hci : ¬ (c = i) := by omega
  have hcj : ¬ (c = j) := by omega
  have hw0 : IntKind.i64.wrap ((i : Int) + (m : Int) + ((n - j : Nat) : Int)) = (i : Int) + (m : Int) + ((n - j : Nat) : Int) := by rw [IntKind.wrap_i64]; omega
  have hb3 : (i : Int) + (m : Int) ≤ (i : Int) + (m : Int) + ((n - j : Nat) : Int) := by omega
  have hb4 : (i : Int) ≤ (i : Int) + (m : Int) + ((n - j : Nat) : Int) := by omega
  have hcm : ¬ (c = i + m) := by omega
  have hct : ¬ (c = i + m + (n - j)) := by omega
  have htt : ((i : Int) + (m : Int) + ((n - j : Nat) : Int)).toNat = i + m + (n - j) := by omega
  have hb8 : (i : Int) + (m : Int) + ((n - j : Nat) : Int) ≤ (n : Int) := by omega
  go_enter Tryz.func240, Tryz.ntmps240
  go_wp2_with fail
  go_quiet (fail)
  go_wp2
  go_region_law_o (fail)
  go_wp2
  go_ret
  exact ⟨_, rfl, rfl⟩
set_option maxHeartbeats 4000000 in
set_option maxRecDepth 100000 in
theorem qvj (g n c i j m vc N : Nat) (a : Addr) (w : World) (G : Nat → Nat) (W1 W2 W3 : Nat → World) (hij : i < j) (hj : j < n) (hnc : n ≤ c) (hn : n ≤ 1099511627776) (hc : c ≤ 9223372036854775807) (hmb : m ≤ 1099511627776) (hroom : c < i + m + (n - j)) (hG : ∀ q, i + m + (n - j) ≤ G q)
    (hr : ∀ q, (Builtin.append_ #[27, 3] 27 #[.slice (some ⟨g, 0, none⟩) i c, .int .i64 ((i : Int) + (m : Int) + ((n - j : Nat) : Int) - (i : Int))]).run Tryz.prog (w.drewN q) = .ok (.slice (some ⟨N, 0, none⟩) (i + m + (n - j)) (G q)) (W1 q))
    (hcpa : ∀ q ty dc, (Builtin.copy_ #[27, 27] ty #[.slice (some ⟨N, i, none⟩) (i + m + (n - j) - i) dc, .slice (some a) m vc]).run Tryz.prog (W1 q) = .ok (goInt m) (W2 q))
    (hcpb : ∀ q ty dc sc, (Builtin.copy_ #[27, 27] ty #[.slice (some ⟨N, i + m, none⟩) (n - j) dc, .slice (some ⟨g, j, none⟩) (n - j) sc]).run Tryz.prog (W2 q).drew = .ok (goInt (n - j : Nat)) (W3 q)) :
    Calls Tryz.prog 240 #[.slice (some ⟨g, 0, none⟩) n c, .int .i64 i, .int .i64 j, .slice (some a) m vc] w (qai fun q en w' => en = .returned (.slice (some ⟨N, 0, none⟩) (i + m + (n - j)) (G q)) ∧ w' = W3 q) := by
  have t0 := qzq
  have hz1 : ¬ ((i : Int) = (j : Int)) := by omega
  have hb6 : j ≤ n := by omega
  have hb7 : (j : Int) ≤ (n : Int) := by omega
  have mixed : Tryz.prog.follows Departure.mixedOrders = true := by kernel_rfl
  have hlen : IntKind.i64.wrap ((i : Int) + (m : Int)) = (i : Int) + (m : Int) := by rw [IntKind.wrap_i64]; omega
  have hb1 : (0 : Int) ≤ (i : Int) + (m : Int) := by omega
  have htn : ((i : Int) + (m : Int)).toNat = i + m := by omega
  have hz2 : ¬ ((j : Int) = (n : Int)) := by omega
  have hci : ¬ (c = i) := by omega
  have hcj : ¬ (c = j) := by omega
  have hw0 : IntKind.i64.wrap ((i : Int) + (m : Int) + ((n - j : Nat) : Int)) = (i : Int) + (m : Int) + ((n - j : Nat) : Int) := by rw [IntKind.wrap_i64]; omega
  have hb3 : (i : Int) + (m : Int) ≤ (i : Int) + (m : Int) + ((n - j : Nat) : Int) := by omega
  have hb4 : (i : Int) ≤ (i : Int) + (m : Int) + ((n - j : Nat) : Int) := by omega
  have hgi : ∀ q, ¬ (G q = i) := fun q => by have := hG q; omega
  have hgm : ∀ q, ¬ (G q = i + m) := fun q => by have := hG q; omega
  have hw2 : IntKind.i64.wrap ((i : Int) + (m : Int) + ((n - j : Nat) : Int) - (i : Int)) = (i : Int) + (m : Int) + ((n - j : Nat) : Int) - (i : Int) := by rw [IntKind.wrap_i64]; omega
  go_enter Tryz.func240, Tryz.ntmps240
  go_wp2_with fail
  go_quiet (fail)
  go_wp2_with (at_builtin; refine Lib.wpList_append_run _ rfl _ _ _ _ rfl _ _ rfl rfl _ _ (hr _) ?_)
  go_region_law_o (fail)
  go_wp2
  go_ret
  exact ⟨_, rfl, rfl⟩

theorem qoj : (Tryz.prog.info? 123).map (fun i => (i.zero, i.size, i.bytes)) = some (some (.agg #[.int .i64 0, .int .i64 0, .int .i64 0]), 3, 24) := by kernel_rfl
theorem qy6 : (Tryz.prog.info? 123).map (·.size) = some 3 := by kernel_rfl
theorem qzp : Tryz.prog.underlying 24 = some (.slice 123) := by kernel_rfl
theorem qyx : ∀ w, (Go.sizeOf 123).run Tryz.prog w = .ok 3 w := fun w => by
  obtain ⟨i0, hi, h0, h1, h2⟩ := info_parts qoj
  simp [Go.sizeOf, typeInfo, hi, h1]

set_option maxHeartbeats 4000000 in
set_option maxRecDepth 100000 in
theorem qvc (g n c i j m vc c1 : Nat) (a b1 : Addr) (w w1 : World) (hij : i < j) (hj : j = n) (hnc : n ≤ c) (hn : n ≤ 1099511627776) (hc : c ≤ 9223372036854775807) (hm : n ≤ i + m) (hmb : m ≤ 1099511627776)
    (hr : (Builtin.append_ #[24, 24] 24 #[.slice (some ⟨g, 0, none⟩) i c, .slice (some a) m vc]).run Tryz.prog w = .ok (.slice (some b1) (i + m) c1) w1) :
    Calls Tryz.prog 254 #[.slice (some ⟨g, 0, none⟩) n c, .int .i64 i, .int .i64 j, .slice (some a) m vc] w fun en w' => en = .returned (.slice (some b1) (i + m) c1) ∧ w' = w1 := by
  subst hj
  have t0 := qzp
  have hz1 : ¬ ((i : Int) = (j : Int)) := by omega
  have hb6 : j ≤ j := by omega
  have hb7 : (j : Int) ≤ (j : Int) := by omega
  have mixed : Tryz.prog.follows Departure.mixedOrders = true := by kernel_rfl
  have hlen : IntKind.i64.wrap ((i : Int) + (m : Int)) = (i : Int) + (m : Int) := by rw [IntKind.wrap_i64]; omega
  have hb1 : (0 : Int) ≤ (i : Int) + (m : Int) := by omega
  have htn : ((i : Int) + (m : Int)).toNat = i + m := by omega
  have hb8 : ¬ ((i + m : Nat) < j) := by omega
  go_enter Tryz.func254, Tryz.ntmps254
  go_wp2_with (at_builtin; refine Lib.wpList_append_run _ rfl _ _ _ _ rfl _ _ rfl rfl _ _ hr ?_)
  go_ret
  exact ⟨rfl, rfl⟩
set_option maxHeartbeats 4000000 in
set_option maxRecDepth 100000 in
theorem qva (g n c i j m vc c1 : Nat) (a b1 : Addr) (w w1 w2 : World) (hij : i < j) (hj : j = n) (hnc : n ≤ c) (hn : n ≤ 1099511627776) (hc : c ≤ 9223372036854775807) (hm : i + m < n) (hmb : m ≤ 1099511627776)
    (hr : (Builtin.append_ #[24, 24] 24 #[.slice (some ⟨g, 0, none⟩) i c, .slice (some a) m vc]).run Tryz.prog w = .ok (.slice (some b1) (i + m) c1) w1)
    (hk : ∀ ty kc, (Builtin.clear_ #[24] ty #[.slice (some ⟨g, (i + m) * 3, none⟩) (n - (i + m)) kc]).run Tryz.prog w1 = .ok (.tuple #[]) w2) :
    Calls Tryz.prog 254 #[.slice (some ⟨g, 0, none⟩) n c, .int .i64 i, .int .i64 j, .slice (some a) m vc] w fun en w' => en = .returned (.slice (some b1) (i + m) c1) ∧ w' = w2 := by
  subst hj
  have t0 := qzp
  have hz1 : ¬ ((i : Int) = (j : Int)) := by omega
  have hb6 : j ≤ j := by omega
  have hb7 : (j : Int) ≤ (j : Int) := by omega
  have mixed : Tryz.prog.follows Departure.mixedOrders = true := by kernel_rfl
  have hlen : IntKind.i64.wrap ((i : Int) + (m : Int)) = (i : Int) + (m : Int) := by rw [IntKind.wrap_i64]; omega
  have hb1 : (0 : Int) ≤ (i : Int) + (m : Int) := by omega
  have htn : ((i : Int) + (m : Int)).toNat = i + m := by omega
  have hb8 : (i + m : Nat) < j := by omega
  have hb9 : ¬ (c = i + m) := by omega
  go_enter Tryz.func254, Tryz.ntmps254
  go_wp2_with (at_builtin; refine Lib.wpList_append_run _ rfl _ _ _ _ rfl _ _ rfl rfl _ _ hr ?_)
  go_ret
  exact ⟨rfl, rfl⟩
set_option maxHeartbeats 4000000 in
set_option maxRecDepth 100000 in
theorem qvk (g n c i j m vc : Nat) (a : Addr) (w : World) (W1 W2 : Nat → World) (hij : i < j) (hj : j < n) (hnc : n ≤ c) (hn : n ≤ 1099511627776) (hc : c ≤ 9223372036854775807) (hm : j < i + m) (hmb : m ≤ 1099511627776) (hroom : i + m + (n - j) ≤ c)
    (hov : ∀ q lb cb, (callFunc 265 #[.slice (some ⟨g, (i + m) * 3, none⟩) lb cb, .slice (some a) m vc]).run Tryz.prog (w.drewN q) = .ok (.value (.bool false)) (w.drewN q))
    (hcpa : ∀ q ty dc sc, (Builtin.copy_ #[24, 24] ty #[.slice (some ⟨g, (i + m) * 3, none⟩) (n - j) dc, .slice (some ⟨g, (j) * 3, none⟩) (n - j) sc]).run Tryz.prog (w.drewN q) = .ok (goInt (n - j : Nat)) (W1 q))
    (hcpb : ∀ q ty dc, (Builtin.copy_ #[24, 24] ty #[.slice (some ⟨g, (i) * 3, none⟩) (i + m + (n - j) - i) dc, .slice (some a) m vc]).run Tryz.prog (W1 q) = .ok (goInt m) (W2 q)) :
    Calls Tryz.prog 254 #[.slice (some ⟨g, 0, none⟩) n c, .int .i64 i, .int .i64 j, .slice (some a) m vc] w (qai fun q en w' => en = .returned (.slice (some ⟨g, 0, none⟩) (i + m + (n - j)) c) ∧ w' = W2 q) := by
  have t0 := qzp
  have hz1 : ¬ ((i : Int) = (j : Int)) := by omega
  have hb6 : j ≤ n := by omega
  have hb7 : (j : Int) ≤ (n : Int) := by omega
  have mixed : Tryz.prog.follows Departure.mixedOrders = true := by kernel_rfl
  have hlen : IntKind.i64.wrap ((i : Int) + (m : Int)) = (i : Int) + (m : Int) := by rw [IntKind.wrap_i64]; omega
  have hb1 : (0 : Int) ≤ (i : Int) + (m : Int) := by omega
  have htn : ((i : Int) + (m : Int)).toNat = i + m := by omega
  have hz2 : ¬ ((j : Int) = (n : Int)) := by omega
  have hci : ¬ (c = i) := by omega
  have hcj : ¬ (c = j) := by omega
  have hw0 : IntKind.i64.wrap ((i : Int) + (m : Int) + ((n - j : Nat) : Int)) = (i : Int) + (m : Int) + ((n - j : Nat) : Int) := by rw [IntKind.wrap_i64]; omega
  have hb3 : (i : Int) + (m : Int) ≤ (i : Int) + (m : Int) + ((n - j : Nat) : Int) := by omega
  have hb4 : (i : Int) ≤ (i : Int) + (m : Int) + ((n - j : Nat) : Int) := by omega
  have hcm : ¬ (c = i + m) := by omega
  go_enter Tryz.func254, Tryz.ntmps254
  go_wp2_with fail
  go_quiet (fail)
  go_wp2_with (simp only [hov])
  go_region_law_o (fail)
  go_wp2
  go_ret
  exact ⟨_, rfl, rfl⟩
set_option maxHeartbeats 4000000 in
set_option maxRecDepth 100000 in
theorem qvg (g n c i j m vc : Nat) (a : Addr) (w : World) (W1 W2 W3 : Nat → World) (hij : i < j) (hj : j < n) (hnc : n ≤ c) (hn : n ≤ 1099511627776) (hc : c ≤ 9223372036854775807) (hm : i + m < j) (hmb : m ≤ 1099511627776)
    (hcpa : ∀ q ty dc, (Builtin.copy_ #[24, 24] ty #[.slice (some ⟨g, (i) * 3, none⟩) (i + m + (n - j) - i) dc, .slice (some a) m vc]).run Tryz.prog (w.drewN q) = .ok (goInt m) (W1 q))
    (hcpb : ∀ q ty dc sc, (Builtin.copy_ #[24, 24] ty #[.slice (some ⟨g, (i + m) * 3, none⟩) (n - j) dc, .slice (some ⟨g, (j) * 3, none⟩) (n - j) sc]).run Tryz.prog (W1 q).drew = .ok (goInt (n - j : Nat)) (W2 q))
    (hk : ∀ q ty kc, (Builtin.clear_ #[24] ty #[.slice (some ⟨g, (i + m + (n - j)) * 3, none⟩) (n - (i + m + (n - j))) kc]).run Tryz.prog (W2 q) = .ok (.tuple #[]) (W3 q)) :
    Calls Tryz.prog 254 #[.slice (some ⟨g, 0, none⟩) n c, .int .i64 i, .int .i64 j, .slice (some a) m vc] w (qai fun q en w' => en = .returned (.slice (some ⟨g, 0, none⟩) (i + m + (n - j)) c) ∧ w' = W3 q) := by
  have t0 := qzp
  have hz1 : ¬ ((i : Int) = (j : Int)) := by omega
  have hb6 : j ≤ n := by omega
  have hb7 : (j : Int) ≤ (n : Int) := by omega
  have mixed : Tryz.prog.follows Departure.mixedOrders = true := by kernel_rfl
  have hlen : IntKind.i64.wrap ((i : Int) + (m : Int)) = (i : Int) + (m : Int) := by rw [IntKind.wrap_i64]; omega
  have hb1 : (0 : Int) ≤ (i : Int) + (m : Int) := by omega
  have htn : ((i : Int) + (m : Int)).toNat = i + m := by omega
  have hz2 : ¬ ((j : Int) = (n : Int)) := by omega
  have hci : ¬ (c = i) := by omega
  have hcj : ¬ (c = j) := by omega
  have hw0 : IntKind.i64.wrap ((i : Int) + (m : Int) + ((n - j : Nat) : Int)) = (i : Int) + (m : Int) + ((n - j : Nat) : Int) := by rw [IntKind.wrap_i64]; omega
  have hb3 : (i : Int) + (m : Int) ≤ (i : Int) + (m : Int) + ((n - j : Nat) : Int) := by omega
  have hb4 : (i : Int) ≤ (i : Int) + (m : Int) + ((n - j : Nat) : Int) := by omega
  have hcm : ¬ (c = i + m) := by omega
  have hct : ¬ (c = i + m + (n - j)) := by omega
  have htt : ((i : Int) + (m : Int) + ((n - j : Nat) : Int)).toNat = i + m + (n - j) := by omega
  have hb8 : (i : Int) + (m : Int) + ((n - j : Nat) : Int) ≤ (n : Int) := by omega
  go_enter Tryz.func254, Tryz.ntmps254
  go_wp2_with fail
  go_quiet (fail)
  go_wp2
  go_region_law_o (fail)
  go_wp2
  go_ret
  exact ⟨_, rfl, rfl⟩
set_option maxHeartbeats 4000000 in
set_option maxRecDepth 100000 in
theorem qvi (g n c i j m vc N : Nat) (a : Addr) (w : World) (G : Nat → Nat) (W1 W2 W3 : Nat → World) (hij : i < j) (hj : j < n) (hnc : n ≤ c) (hn : n ≤ 1099511627776) (hc : c ≤ 9223372036854775807) (hmb : m ≤ 1099511627776) (hroom : c < i + m + (n - j)) (hG : ∀ q, i + m + (n - j) ≤ G q)
    (hr : ∀ q, (Builtin.append_ #[24, 3] 24 #[.slice (some ⟨g, 0, none⟩) i c, .int .i64 ((i : Int) + (m : Int) + ((n - j : Nat) : Int) - (i : Int))]).run Tryz.prog (w.drewN q) = .ok (.slice (some ⟨N, 0, none⟩) (i + m + (n - j)) (G q)) (W1 q))
    (hcpa : ∀ q ty dc, (Builtin.copy_ #[24, 24] ty #[.slice (some ⟨N, (i) * 3, none⟩) (i + m + (n - j) - i) dc, .slice (some a) m vc]).run Tryz.prog (W1 q) = .ok (goInt m) (W2 q))
    (hcpb : ∀ q ty dc sc, (Builtin.copy_ #[24, 24] ty #[.slice (some ⟨N, (i + m) * 3, none⟩) (n - j) dc, .slice (some ⟨g, (j) * 3, none⟩) (n - j) sc]).run Tryz.prog (W2 q).drew = .ok (goInt (n - j : Nat)) (W3 q)) :
    Calls Tryz.prog 254 #[.slice (some ⟨g, 0, none⟩) n c, .int .i64 i, .int .i64 j, .slice (some a) m vc] w (qai fun q en w' => en = .returned (.slice (some ⟨N, 0, none⟩) (i + m + (n - j)) (G q)) ∧ w' = W3 q) := by
  have t0 := qzp
  have hz1 : ¬ ((i : Int) = (j : Int)) := by omega
  have hb6 : j ≤ n := by omega
  have hb7 : (j : Int) ≤ (n : Int) := by omega
  have mixed : Tryz.prog.follows Departure.mixedOrders = true := by kernel_rfl
  have hlen : IntKind.i64.wrap ((i : Int) + (m : Int)) = (i : Int) + (m : Int) := by rw [IntKind.wrap_i64]; omega
  have hb1 : (0 : Int) ≤ (i : Int) + (m : Int) := by omega
  have htn : ((i : Int) + (m : Int)).toNat = i + m := by omega
  have hz2 : ¬ ((j : Int) = (n : Int)) := by omega
  have hci : ¬ (c = i) := by omega
  have hcj : ¬ (c = j) := by omega
  have hw0 : IntKind.i64.wrap ((i : Int) + (m : Int) + ((n - j : Nat) : Int)) = (i : Int) + (m : Int) + ((n - j : Nat) : Int) := by rw [IntKind.wrap_i64]; omega
  have hb3 : (i : Int) + (m : Int) ≤ (i : Int) + (m : Int) + ((n - j : Nat) : Int) := by omega
  have hb4 : (i : Int) ≤ (i : Int) + (m : Int) + ((n - j : Nat) : Int) := by omega
  have hgi : ∀ q, ¬ (G q = i) := fun q => by have := hG q; omega
  have hgm : ∀ q, ¬ (G q = i + m) := fun q => by have := hG q; omega
  have hw2 : IntKind.i64.wrap ((i : Int) + (m : Int) + ((n - j : Nat) : Int) - (i : Int)) = (i : Int) + (m : Int) + ((n - j : Nat) : Int) - (i : Int) := by rw [IntKind.wrap_i64]; omega
  go_enter Tryz.func254, Tryz.ntmps254
  go_wp2_with fail
  go_quiet (fail)
  go_wp2_with (at_builtin; refine Lib.wpList_append_run _ rfl _ _ _ _ rfl _ _ rfl rfl _ _ (hr _) ?_)
  go_region_law_o (fail)
  go_wp2
  go_ret
  exact ⟨_, rfl, rfl⟩
end Go.Proofs.YtoldpdhhfmlckaaGreat
end
section
namespace Go.Proofs.YtoldpdhhfmlckaaGreat
open Go.RowKit Go.Lib Go.Ev Go.Shelf
theorem qn6 (w : World) (q : Nat) : Fr (fun _ _ => False) w (w.drewN q) := ⟨rfl, rfl, rfl, Nat.le_refl _, fun _ _ => .inr (.inl rfl)⟩

theorem q0j : ∀ w, (zeroValue 3).run Tryz.prog w = .ok (.int .i64 0) w := fun w => by
  obtain ⟨i0, hi, h0, h1, h2⟩ := info_parts qok
  simp [zeroValue, typeInfo, hi, h0]
set_option maxHeartbeats 1000000 in
set_option maxRecDepth 100000 in
theorem qvf (w : World) (g n c i j m vc : Nat) (a : Addr) (xs vs : List Value) (e' : TypeId) (hij : i < j) (hj : j ≤ n) (hm : 1 ≤ m) (hne : i + m ≠ j) (hn : n ≤ 549755813888) (hmb : m ≤ 549755813888)
    (own : w.ownsRow 0 e' 1 (.slice (some ⟨g, 0, none⟩) n c) n xs) (hva : a.block ≠ g) (hvl : vs.length = m * 1) (hv : ∀ q v, vs[q]? = some v → w.cell? (a.add q) = some v)
    (h1c : ∀ v ∈ xs, v.oneCell' = true) (h1v : ∀ v ∈ vs, v.oneCell' = true) :
    Calls Tryz.prog 240 #[.slice (some ⟨g, 0, none⟩) n c, .int .i64 i, .int .i64 j, .slice (some a) m vc] w (RepPost 1 w g (i + m + (n - j)) (xs.take (i * 1) ++ vs ++ xs.drop (j * 1))) := by
  have own0 := own
  obtain ⟨hxl, hx | ⟨g', cap, cur, e1, _, hg, hnc, hcm, hcs, htk⟩⟩ := own
  · simp at hx
  simp only [Value.slice.injEq, Option.some.injEq, Addr.mk.injEq, and_true, true_and] at e1
  obtain ⟨rfl, rfl⟩ := e1
  have hcm' := hcm
  unfold maxLen at hcm'
  obtain ⟨i0, hi, hz0, hzs, hzb⟩ := info_parts qok
  have hlt : g < w.heap.size := (Array.getElem?_eq_some_iff.1 hg).1
  have hcur : cur.toList.length = c * 1 := by rw [Array.length_toList]; exact hcs
  have htA : xs.take (i * 1) = cur.toList.take (i * 1) := by rw [← htk, take_take_le _ (by omega)]
  have h1z : ∀ n, ∀ v ∈ (Builtin.zeroCells ((.int .i64 0) : Value).cells n).toList, v.oneCell' = true := fun n => zeroCells_oneCell (by intro v hv; simp [Value.cells] at hv; rcases hv with rfl | rfl | rfl <;> rfl) n
  have lz : ∀ n, (Builtin.zeroCells ((.int .i64 0) : Value).cells n).toList.length = n * 1 := fun n => by simp [Builtin.zeroCells, Value.cells]
  by_cases hjn : j = n
  · have hys : xs.take (i * 1) ++ vs ++ xs.drop (j * 1) = xs.take (i * 1) ++ vs := by rw [List.drop_of_length_le (by omega), List.append_nil]
    have owni : w.ownsRow 0 e' i0.size (.slice (some ⟨g, 0, none⟩) i c) i (xs.take (i * 1)) := by
      rw [hzs]; exact own_make hg (by rw [List.length_take]; omega) (by omega) hcm hcs (by rw [htA])
    obtain ⟨u', w1, e2, hr, hown, hfr, _, hblk⟩ := append_any (P := Tryz.prog) (w := w) (t := 27) (t2 := 27) (ty := 27) (e := 3) (e' := e') (d2 := .slice 3) (i := i0) (z := (.int .i64 0)) qzq qzq (fun k h => by cases h) hi hz0 (by rw [hzs]; rfl) (by omega) (by omega)
      (u := .slice (some ⟨g, 0, none⟩) i c) (x := .slice (some a) m vc) (n := i) (m := m) (xs := xs.take (i * 1)) (news := vs) rfl
      (fun w1 h => by
        rw [hzs]
        rcases h with rfl | rfl
        · exact run_firstCells_some w1 1 m a m vc vs hvl hv
        · exact run_firstCells_some w.drew 1 m a m vc vs hvl hv) (by rw [hvl, hzs]) h1v owni (by unfold bigLen; omega)
    have hfr' : Fr (fun b _ => b = g) w w1 := hfr.mono fun x y _ h => by simp [Value.ownBlock] at h; exact h.symm
    rw [hzs] at hown
    have hown0 := hown
    obtain ⟨_, ⟨_, h0⟩ | ⟨g1, cap1, cur1, rfl, _⟩⟩ := hown
    · omega
    have hblk' : ∀ b, (Value.slice (some ⟨g1, 0, none⟩) (i + m) cap1).ownBlock = some b → b = g ∨ w.heap.size ≤ b := fun b hb => (hblk b hb).imp (fun h => by simp [Value.ownBlock] at h; exact h.symm) id
    by_cases hcut : i + m < n
    · obtain ⟨cu, hcu, hcz⟩ := fr_at hfr' hg
      have hfit : (i + m) * 1 + (Builtin.zeroCells ((.int .i64 0) : Value).cells (n - (i + m))).toList.length ≤ cu.size := by rw [lz]; omega
      refine (qvb g n c i j m vc cap1 a ⟨g1, 0, none⟩ w w1 _ hij hjn hnc (by omega) hcm' hcut (by omega) hr (fun ty kc => run_clear_rows w1 27 3 ty (.int .i64 0) qzq q0j h1z g (i + m) (n - (i + m)) kc (by omega) cu e' hcu (by omega))).mono ?_
      rintro en w' ⟨rfl, rfl⟩
      refine ⟨_, rfl, ⟨e2, ?_⟩, hfr'.trans (fr_row hcu (spl_size (by omega))), hblk'⟩
      rw [hys, show i + m + (n - j) = i + m by omega]
      exact own_clear hown0 hcu (by omega) (by omega)
    · refine (qvd g n c i j m vc cap1 a ⟨g1, 0, none⟩ w w1 hij hjn hnc (by omega) hcm' (by omega) (by omega) hr).mono ?_
      rintro en w' ⟨rfl, rfl⟩
      refine ⟨_, rfl, ⟨e2, ?_⟩, hfr', hblk'⟩
      rw [hys, show i + m + (n - j) = i + m by omega]
      exact hown0
  · have hj' : j < n := by omega
    obtain ⟨cs, hcsd⟩ : ∃ cs, cs = xs.drop (j * 1) := ⟨_, rfl⟩
    have hcl : cs.length = (n - j) * 1 := by rw [hcsd, List.length_drop]; omega
    have h1s : ∀ v ∈ cs, v.oneCell' = true := fun v hv => h1c v (by rw [hcsd] at hv; exact List.mem_of_mem_drop hv)
    have htd : (cur.toList.drop (j * 1)).take ((n - j) * 1) = cs := by rw [hcsd, ← htk, List.drop_take]; congr 1; omega
    have hys : (xs.take (i * 1) ++ vs ++ cs).length = (i + m + (n - j)) * 1 := by
      rw [List.length_append, List.length_append, List.length_take]; omega
    rw [← hcsd]
    have hmin : Nat.min m (i + m + (n - j) - i) = m := by simp only [Nat.min_def]; split <;> omega
    have hmin2 : Nat.min (n - j) (n - j) = n - j := Nat.min_self _
    by_cases hroom : i + m + (n - j) ≤ c
    · by_cases hgr : j < i + m
      · have hfa : (i + m) * 1 + cs.length ≤ cur.size := by omega
        have hfb : i * 1 + vs.length ≤ (spl cur ((i + m) * 1) cs).size := by rw [spl_size hfa]; omega
        obtain ⟨tB, kB, hsb, hkB⟩ := shape_of (by omega) hv
        refine (qvl g n c i j m vc a w (fun q => (w.drewN q).setRow g (spl cur ((i + m) * 1) cs)) (fun q => ((w.drewN q).setRow g (spl cur ((i + m) * 1) cs)).setRow g (spl (spl cur ((i + m) * 1) cs) (i * 1) vs)) hij hj' hnc (by omega) hcm' hgr (by omega) hroom ?_ ?_ ?_).mono ?_
        · intro q lb cb
          rw [run_callFunc_extern Tryz.func257 (by kernel_rfl) (by kernel_rfl) (by kernel_rfl) (e := Extern.SlicesOverlaps.overlaps #[27, 27] #[4]) (by kernel_rfl),
            Lib.run_overlaps_apart (w.drewN q) 27 4 3 qzq 1 qyy ⟨g, (i + m), none⟩ a lb cb m vc (fun h => hva h.symm) e' tB cur.size kB (by simp [World.shape?, hg]) (by simpa [World.shape?] using hsb) hkB (by simp [World.frozen?, hg]) (by simp [World.frozen?, hg])]
          rfl
        · intro q ty dc sc
          have := run_copy_rows (P := Tryz.prog) (w.drewN q) 27 27 ty 3 1 g ((i + m) * 1) (n - j) dc ⟨g, j * 1, none⟩ (n - j) sc cur e' cs qzq qy7 hg (by rw [hcl, hmin2]) (fun q' v hq => by rw [Addr.add_lit]; simpa [World.cell?, hg] using get_drop htd q' v hq) hfa h1s
          rw [hmin2] at this
          simpa using this
        · intro q ty dc
          have := run_copy_rows (P := Tryz.prog) ((w.drewN q).setRow g (spl cur ((i + m) * 1) cs)) 27 27 ty 3 1 g (i * 1) (i + m + (n - j) - i) dc a m vc (spl cur ((i + m) * 1) cs) e' vs qzq qy7 (setRow_heap _ g cur _ e' _ hg) (by rw [hvl, hmin]) (fun q' v hq => by rw [cell_setRow hva]; exact hv q' v hq) hfb h1v
          rw [hmin] at this
          simpa using this
        · rintro en w' ⟨q, rfl, rfl⟩
          refine ⟨_, rfl, ⟨e', ?_⟩, ?_, fun b hb => .inl (by simp [Value.ownBlock] at hb; exact hb.symm)⟩
          · refine own_make (setRow_heap _ g _ _ e' _ (setRow_heap _ g cur _ e' _ hg)) hys hroom hcm (by rw [spl_size hfb, spl_size hfa]; exact hcs) ?_
            have d1 : (spl cur ((i + m) * 1) cs).toList.drop ((i + m) * 1) = cs ++ cur.toList.drop ((i + m) * 1 + cs.length) := by
              show List.drop _ (cur.toList.take ((i + m) * 1) ++ cs ++ cur.toList.drop ((i + m) * 1 + cs.length)) = _
              rw [List.append_assoc, List.drop_left' (by rw [List.length_take]; omega)]
            show List.take _ ((spl cur ((i + m) * 1) cs).toList.take (i * 1) ++ vs ++ (spl cur ((i + m) * 1) cs).toList.drop (i * 1 + vs.length)) = _
            rw [show i * 1 + vs.length = (i + m) * 1 by omega, d1, spl_take_lo (by omega) (by omega), htA, ← List.append_assoc]
            exact List.take_left' (by rw [← htA]; exact hys)
          · rw [setRow_setRow]
            exact (((qn6 w q).mono fun _ _ _ h => h.elim).trans (fr_row (w := w.drewN q) hg (by rw [spl_size hfb, spl_size hfa])))
      · have hfa : i * 1 + vs.length ≤ cur.size := by omega
        have hfb : (i + m) * 1 + cs.length ≤ (spl cur (i * 1) vs).size := by rw [spl_size hfa]; omega
        have hfc : (i + m + (n - j)) * 1 + (Builtin.zeroCells ((.int .i64 0) : Value).cells (n - (i + m + (n - j)))).toList.length ≤ (spl (spl cur (i * 1) vs) ((i + m) * 1) cs).size := by rw [spl_size hfb, spl_size hfa, lz]; omega
        have htd1 : ((spl cur (i * 1) vs).toList.drop (j * 1)).take ((n - j) * 1) = cs := by rw [spl_drop_hi (by omega) hfa]; exact htd
        refine (qvh g n c i j m vc a w (fun q => (w.drewN q).setRow g (spl cur (i * 1) vs)) (fun q => ((w.drewN q).setRow g (spl cur (i * 1) vs)).drew.setRow g (spl (spl cur (i * 1) vs) ((i + m) * 1) cs)) (fun q => (((w.drewN q).setRow g (spl cur (i * 1) vs)).drew.setRow g (spl (spl cur (i * 1) vs) ((i + m) * 1) cs)).setRow g (spl (spl (spl cur (i * 1) vs) ((i + m) * 1) cs) ((i + m + (n - j)) * 1) (Builtin.zeroCells ((.int .i64 0) : Value).cells (n - (i + m + (n - j)))).toList)) hij hj' hnc (by omega) hcm' (by omega) (by omega) ?_ ?_ ?_).mono ?_
        · intro q ty dc
          have := run_copy_rows (P := Tryz.prog) (w.drewN q) 27 27 ty 3 1 g (i * 1) (i + m + (n - j) - i) dc a m vc cur e' vs qzq qy7 hg (by rw [hvl, hmin]) hv hfa h1v
          rw [hmin] at this
          simpa using this
        · intro q ty dc sc
          have hh : ((w.drewN q).setRow g (spl cur (i * 1) vs)).drew.heap[g]? = some (.cells (spl cur (i * 1) vs) e' (0, 0)) := setRow_heap _ g cur _ e' _ hg
          have := run_copy_rows (P := Tryz.prog) ((w.drewN q).setRow g (spl cur (i * 1) vs)).drew 27 27 ty 3 1 g ((i + m) * 1) (n - j) dc ⟨g, j * 1, none⟩ (n - j) sc _ e' cs qzq qy7 hh (by rw [hcl, hmin2]) (fun q' v hq => cell_at hh (get_drop htd1 q' v hq)) hfb h1s
          rw [hmin2] at this
          simpa using this
        · intro q ty kc
          have := run_clear_rows (P := Tryz.prog) _ 27 3 ty (.int .i64 0) qzq q0j h1z g ((i + m + (n - j)) * 1) (n - (i + m + (n - j))) kc (by omega) _ e' (setRow_heap ((w.drewN q).setRow g (spl cur (i * 1) vs)).drew g _ (spl (spl cur (i * 1) vs) ((i + m) * 1) cs) e' _ (setRow_heap (w.drewN q) g cur _ e' _ hg)) hfc
          simpa using this
        · rintro en w' ⟨q, rfl, rfl⟩
          refine ⟨_, rfl, ⟨e', ?_⟩, ?_, fun b hb => .inl (by simp [Value.ownBlock] at hb; exact hb.symm)⟩
          · refine own_make (setRow_heap _ g _ _ e' _ (setRow_heap _ g _ _ e' _ (setRow_heap (w.drewN q) g cur _ e' _ hg))) hys hroom hcm (by rw [spl_size hfc, spl_size hfb, spl_size hfa]; exact hcs) ?_
            rw [spl_take_lo (by omega) (by rw [spl_size hfb, spl_size hfa]; omega)]
            have e1 := spl_take hfb
            rw [show (i + m) * 1 + cs.length = (i + m + (n - j)) * 1 by omega] at e1
            rw [e1]
            have e2 := spl_take hfa
            rw [show i * 1 + vs.length = (i + m) * 1 by omega] at e2
            rw [e2, htA]
          · have f1 := fr_row (w := w.drewN q) hg (spl_size hfa)
            have g1 := setRow_heap (w.drewN q) g cur (spl cur (i * 1) vs) e' _ hg
            have f2 := fr_row (w := ((w.drewN q).setRow g (spl cur (i * 1) vs)).drew) g1 (spl_size hfb)
            have g2 := setRow_heap ((w.drewN q).setRow g (spl cur (i * 1) vs)).drew g _ (spl (spl cur (i * 1) vs) ((i + m) * 1) cs) e' _ g1
            have f3 := fr_row g2 (spl_size hfc)
            exact ((qn6 w q).mono fun _ _ _ h => h.elim).trans (f1.trans (((fr_drew _).mono fun _ _ _ h => h.elim).trans (f2.trans f3)))
    · obtain ⟨ROW, hROW⟩ : ∃ ROW : Nat → Array Value, ROW = fun q => (xs.take (i * 1)).toArray ++ Builtin.zeroCells ((.int .i64 0) : Value).cells (m + (n - j)) ++ Builtin.zeroCells ((.int .i64 0) : Value).cells (grownCap (w.drewN q) (i + (m + (n - j))) c 3 - (i + (m + (n - j)))) := ⟨_, rfl⟩
      obtain ⟨G, hGd⟩ : ∃ G : Nat → Nat, G = fun q => grownCap (w.drewN q) (i + (m + (n - j))) c 3 := ⟨_, rfl⟩
      have hG : ∀ q, i + m + (n - j) ≤ G q := fun q => by have := grownCap_ge (w.drewN q) (i + (m + (n - j))) c 3; rw [hGd]; show i + m + (n - j) ≤ grownCap (w.drewN q) (i + (m + (n - j))) c 3; omega
      have hGm : ∀ q, G q ≤ maxLen := fun q => by rw [hGd]; exact grownCap_le_maxLen _ _ _ _ (by unfold maxLen; omega)
      have hrs : ∀ q, (ROW q).size = G q * 1 := fun q => by
        have := hG q
        rw [hGd] at this ⊢
        rw [hROW]
        simp only [Array.size_append, List.size_toArray, List.length_take]
        rw [← Array.length_toList (xs := Builtin.zeroCells _ _), lz, ← Array.length_toList (xs := Builtin.zeroCells _ _), lz]
        simp only at this
        omega
      have hrt : ∀ q, (ROW q).toList.take (i * 1) = xs.take (i * 1) := fun q => by
        rw [hROW]
        simp only [Array.toList_append, List.append_assoc]
        exact List.take_left' (by rw [List.length_take]; omega)
      have hap : ∀ q, (Builtin.append_ #[27, 3] 27 #[.slice (some ⟨g, 0, none⟩) i c, .int .i64 ((i : Int) + (m : Int) + ((n - j : Nat) : Int) - (i : Int))]).run Tryz.prog (w.drewN q) = .ok (.slice (some ⟨w.heap.size, 0, none⟩) (i + m + (n - j)) (G q)) ((w.drewN q).drew.alloc (.cells (ROW q) 3)) := fun q => by
        have hold : (Builtin.firstCells i0.size i (.slice (some ⟨g, 0, none⟩) i c)).run Tryz.prog (w.drewN q).drew = .ok (xs.take (i * 1)).toArray (w.drewN q).drew := by
          rw [hzs]
          exact run_firstCells_some _ 1 i ⟨g, 0, none⟩ i c _ (by rw [List.length_take]; omega) (fun q' v hq => by
            rw [Addr.add_lit]
            have := get_drop (cur := cur) (o := 0) (L := i * 1) (cs := xs.take (i * 1)) (by rw [List.drop_zero, htA]) q' v hq
            simpa [World.cell?, hg] using this)
        have h := Lib.run_append_grow_zeros (P := Tryz.prog) (w.drewN q) 27 3 27 3 i0 (.int .i64 0) .i64 .i64 qzq (by kernel_rfl) hi hz0 (some ⟨g, 0, none⟩) i c (xs.take (i * 1)) hold (m + (n - j)) (by omega) (by omega) (by omega) (by omega) (by rw [hzb]; omega) (by rw [hzb]; exact growslice_fits (by omega) (by omega))
        rw [show (i : Int) + (m : Int) + ((n - j : Nat) : Int) - (i : Int) = ((m + (n - j) : Nat) : Int) by omega, show i + m + (n - j) = i + (m + (n - j)) by omega, hGd, hROW]
        exact h
      have hfa : ∀ q, i * 1 + vs.length ≤ (ROW q).size := fun q => by rw [hrs q]; have := hG q; omega
      have hfb : ∀ q, (i + m) * 1 + cs.length ≤ (spl (ROW q) (i * 1) vs).size := fun q => by rw [spl_size (hfa q), hrs q]; have := hG q; omega
      have hnew : ∀ q, ((w.drewN q).drew.alloc (.cells (ROW q) 3)).heap[w.heap.size]? = some (.cells (ROW q) 3 (0, 0)) := fun q => heap_alloc_new (w.drewN q).drew _
      have hold : ∀ q b, b < w.heap.size → ((w.drewN q).drew.alloc (.cells (ROW q) 3)).heap[b]? = w.heap[b]? := fun q b hb => by
        show (w.heap.push _)[b]? = _
        rw [Array.getElem?_push, if_neg (by omega)]
      have hab : a.block < w.heap.size := block_lt_of_cell (hv 0 _ (List.getElem?_eq_getElem (show 0 < vs.length by omega)))
      refine (qvj g n c i j m vc w.heap.size a w G (fun q => (w.drewN q).drew.alloc (.cells (ROW q) 3)) (fun q => ((w.drewN q).drew.alloc (.cells (ROW q) 3)).setRow w.heap.size (spl (ROW q) (i * 1) vs)) (fun q => (((w.drewN q).drew.alloc (.cells (ROW q) 3)).setRow w.heap.size (spl (ROW q) (i * 1) vs)).drew.setRow w.heap.size (spl (spl (ROW q) (i * 1) vs) ((i + m) * 1) cs)) hij hj' hnc (by omega) hcm' (by omega) (by omega) hG hap ?_ ?_).mono ?_
      · intro q ty dc
        have := run_copy_rows (P := Tryz.prog) ((w.drewN q).drew.alloc (.cells (ROW q) 3)) 27 27 ty 3 1 w.heap.size (i * 1) (i + m + (n - j) - i) dc a m vc (ROW q) 3 vs qzq qy7 (hnew q) (by rw [hvl, hmin]) (fun q' v hq => by
          rw [← hv q' v hq]; simp only [World.cell?, addr_block]; rw [hold q a.block hab]) (hfa q) h1v
        rw [hmin] at this
        simpa using this
      · intro q ty dc sc
        have hh : (((w.drewN q).drew.alloc (.cells (ROW q) 3)).setRow w.heap.size (spl (ROW q) (i * 1) vs)).drew.heap[w.heap.size]? = some (.cells (spl (ROW q) (i * 1) vs) 3 (0, 0)) := setRow_heap _ _ _ _ 3 _ (hnew q)
        have hh2 : (((w.drewN q).drew.alloc (.cells (ROW q) 3)).setRow w.heap.size (spl (ROW q) (i * 1) vs)).drew.heap[g]? = some (.cells cur e' (0, 0)) := by
          show (((w.drewN q).drew.alloc (.cells (ROW q) 3)).setRow w.heap.size (spl (ROW q) (i * 1) vs)).heap[g]? = _
          rw [setRow_other _ w.heap.size g _ (by omega), hold q g hlt]; exact hg
        have := run_copy_rows (P := Tryz.prog) (((w.drewN q).drew.alloc (.cells (ROW q) 3)).setRow w.heap.size (spl (ROW q) (i * 1) vs)).drew 27 27 ty 3 1 w.heap.size ((i + m) * 1) (n - j) dc ⟨g, j * 1, none⟩ (n - j) sc _ 3 cs qzq qy7 hh (by rw [hcl, hmin2]) (fun q' v hq => cell_at hh2 (get_drop htd q' v hq)) (hfb q) h1s
        rw [hmin2] at this
        simpa using this
      · rintro en w' ⟨q, rfl, rfl⟩
        refine ⟨_, rfl, ⟨3, ?_⟩, ?_, fun b hb => .inr (by simp [Value.ownBlock] at hb; omega)⟩
        · refine own_make (setRow_heap _ _ _ _ 3 _ (setRow_heap _ _ _ _ 3 _ (hnew q))) hys (hG q) (hGm q) (by rw [spl_size (hfb q), spl_size (hfa q)]; exact hrs q) ?_
          have e1 := spl_take (hfb q)
          rw [show (i + m) * 1 + cs.length = (i + m + (n - j)) * 1 by omega] at e1
          rw [e1]
          have e2 := spl_take (hfa q)
          rw [show i * 1 + vs.length = (i + m) * 1 by omega] at e2
          rw [e2, hrt q]
        · have f0 : Fr (fun b _ => b = g ∨ w.heap.size ≤ b) w ((w.drewN q).drew.alloc (.cells (ROW q) 3)) := ((qn6 w q).mono fun _ _ _ h => h.elim).trans (((fr_drew _).mono fun _ _ _ h => h.elim).trans ((fr_alloc _ _).mono fun _ _ _ h => h.elim))
          have f1 := fr_new f0 (Nat.le_refl _) (hnew q) (spl_size (hfa q))
          have f2 := fr_new (f1.trans ((fr_drew _).mono fun _ _ _ h => h.elim)) (Nat.le_refl _) (setRow_heap _ _ _ _ 3 _ (hnew q)) (spl_size (hfb q))
          exact f2.mono fun x y hx h => h.elim id fun h => by omega

theorem q0i : ∀ w, (zeroValue 123).run Tryz.prog w = .ok (.agg #[.int .i64 0, .int .i64 0, .int .i64 0]) w := fun w => by
  obtain ⟨i0, hi, h0, h1, h2⟩ := info_parts qoj
  simp [zeroValue, typeInfo, hi, h0]
set_option maxHeartbeats 1000000 in
set_option maxRecDepth 100000 in
theorem qve (w : World) (g n c i j m vc : Nat) (a : Addr) (xs vs : List Value) (e' : TypeId) (hij : i < j) (hj : j ≤ n) (hm : 1 ≤ m) (hne : i + m ≠ j) (hn : n ≤ 549755813888) (hmb : m ≤ 549755813888)
    (own : w.ownsRow 0 e' 3 (.slice (some ⟨g, 0, none⟩) n c) n xs) (hva : a.block ≠ g) (hvl : vs.length = m * 3) (hv : ∀ q v, vs[q]? = some v → w.cell? (a.add q) = some v)
    (h1c : ∀ v ∈ xs, v.oneCell' = true) (h1v : ∀ v ∈ vs, v.oneCell' = true) :
    Calls Tryz.prog 254 #[.slice (some ⟨g, 0, none⟩) n c, .int .i64 i, .int .i64 j, .slice (some a) m vc] w (RepPost 3 w g (i + m + (n - j)) (xs.take (i * 3) ++ vs ++ xs.drop (j * 3))) := by
  have own0 := own
  obtain ⟨hxl, hx | ⟨g', cap, cur, e1, _, hg, hnc, hcm, hcs, htk⟩⟩ := own
  · simp at hx
  simp only [Value.slice.injEq, Option.some.injEq, Addr.mk.injEq, and_true, true_and] at e1
  obtain ⟨rfl, rfl⟩ := e1
  have hcm' := hcm
  unfold maxLen at hcm'
  obtain ⟨i0, hi, hz0, hzs, hzb⟩ := info_parts qoj
  have hlt : g < w.heap.size := (Array.getElem?_eq_some_iff.1 hg).1
  have hcur : cur.toList.length = c * 3 := by rw [Array.length_toList]; exact hcs
  have htA : xs.take (i * 3) = cur.toList.take (i * 3) := by rw [← htk, take_take_le _ (by omega)]
  have h1z : ∀ n, ∀ v ∈ (Builtin.zeroCells ((.agg #[.int .i64 0, .int .i64 0, .int .i64 0]) : Value).cells n).toList, v.oneCell' = true := fun n => zeroCells_oneCell (by intro v hv; simp [Value.cells] at hv; rcases hv with rfl | rfl | rfl <;> rfl) n
  have lz : ∀ n, (Builtin.zeroCells ((.agg #[.int .i64 0, .int .i64 0, .int .i64 0]) : Value).cells n).toList.length = n * 3 := fun n => by simp [Builtin.zeroCells, Value.cells]
  by_cases hjn : j = n
  · have hys : xs.take (i * 3) ++ vs ++ xs.drop (j * 3) = xs.take (i * 3) ++ vs := by rw [List.drop_of_length_le (by omega), List.append_nil]
    have owni : w.ownsRow 0 e' i0.size (.slice (some ⟨g, 0, none⟩) i c) i (xs.take (i * 3)) := by
      rw [hzs]; exact own_make hg (by rw [List.length_take]; omega) (by omega) hcm hcs (by rw [htA])
    obtain ⟨u', w1, e2, hr, hown, hfr, _, hblk⟩ := append_any (P := Tryz.prog) (w := w) (t := 24) (t2 := 24) (ty := 24) (e := 123) (e' := e') (d2 := .slice 123) (i := i0) (z := (.agg #[.int .i64 0, .int .i64 0, .int .i64 0])) qzp qzp (fun k h => by cases h) hi hz0 (by rw [hzs]; rfl) (by omega) (by omega)
      (u := .slice (some ⟨g, 0, none⟩) i c) (x := .slice (some a) m vc) (n := i) (m := m) (xs := xs.take (i * 3)) (news := vs) rfl
      (fun w1 h => by
        rw [hzs]
        rcases h with rfl | rfl
        · exact run_firstCells_some w1 3 m a m vc vs hvl hv
        · exact run_firstCells_some w.drew 3 m a m vc vs hvl hv) (by rw [hvl, hzs]) h1v owni (by unfold bigLen; omega)
    have hfr' : Fr (fun b _ => b = g) w w1 := hfr.mono fun x y _ h => by simp [Value.ownBlock] at h; exact h.symm
    rw [hzs] at hown
    have hown0 := hown
    obtain ⟨_, ⟨_, h0⟩ | ⟨g1, cap1, cur1, rfl, _⟩⟩ := hown
    · omega
    have hblk' : ∀ b, (Value.slice (some ⟨g1, 0, none⟩) (i + m) cap1).ownBlock = some b → b = g ∨ w.heap.size ≤ b := fun b hb => (hblk b hb).imp (fun h => by simp [Value.ownBlock] at h; exact h.symm) id
    by_cases hcut : i + m < n
    · obtain ⟨cu, hcu, hcz⟩ := fr_at hfr' hg
      have hfit : (i + m) * 3 + (Builtin.zeroCells ((.agg #[.int .i64 0, .int .i64 0, .int .i64 0]) : Value).cells (n - (i + m))).toList.length ≤ cu.size := by rw [lz]; omega
      refine (qva g n c i j m vc cap1 a ⟨g1, 0, none⟩ w w1 _ hij hjn hnc (by omega) hcm' hcut (by omega) hr (fun ty kc => run_clear_rows w1 24 123 ty (.agg #[.int .i64 0, .int .i64 0, .int .i64 0]) qzp q0i h1z g ((i + m) * 3) (n - (i + m)) kc (by omega) cu e' hcu (by omega))).mono ?_
      rintro en w' ⟨rfl, rfl⟩
      refine ⟨_, rfl, ⟨e2, ?_⟩, hfr'.trans (fr_row hcu (spl_size (by omega))), hblk'⟩
      rw [hys, show i + m + (n - j) = i + m by omega]
      exact own_clear hown0 hcu (by omega) (by omega)
    · refine (qvc g n c i j m vc cap1 a ⟨g1, 0, none⟩ w w1 hij hjn hnc (by omega) hcm' (by omega) (by omega) hr).mono ?_
      rintro en w' ⟨rfl, rfl⟩
      refine ⟨_, rfl, ⟨e2, ?_⟩, hfr', hblk'⟩
      rw [hys, show i + m + (n - j) = i + m by omega]
      exact hown0
  · have hj' : j < n := by omega
    obtain ⟨cs, hcsd⟩ : ∃ cs, cs = xs.drop (j * 3) := ⟨_, rfl⟩
    have hcl : cs.length = (n - j) * 3 := by rw [hcsd, List.length_drop]; omega
    have h1s : ∀ v ∈ cs, v.oneCell' = true := fun v hv => h1c v (by rw [hcsd] at hv; exact List.mem_of_mem_drop hv)
    have htd : (cur.toList.drop (j * 3)).take ((n - j) * 3) = cs := by rw [hcsd, ← htk, List.drop_take]; congr 1; omega
    have hys : (xs.take (i * 3) ++ vs ++ cs).length = (i + m + (n - j)) * 3 := by
      rw [List.length_append, List.length_append, List.length_take]; omega
    rw [← hcsd]
    have hmin : Nat.min m (i + m + (n - j) - i) = m := by simp only [Nat.min_def]; split <;> omega
    have hmin2 : Nat.min (n - j) (n - j) = n - j := Nat.min_self _
    by_cases hroom : i + m + (n - j) ≤ c
    · by_cases hgr : j < i + m
      · have hfa : (i + m) * 3 + cs.length ≤ cur.size := by omega
        have hfb : i * 3 + vs.length ≤ (spl cur ((i + m) * 3) cs).size := by rw [spl_size hfa]; omega
        obtain ⟨tB, kB, hsb, hkB⟩ := shape_of (by omega) hv
        refine (qvk g n c i j m vc a w (fun q => (w.drewN q).setRow g (spl cur ((i + m) * 3) cs)) (fun q => ((w.drewN q).setRow g (spl cur ((i + m) * 3) cs)).setRow g (spl (spl cur ((i + m) * 3) cs) (i * 3) vs)) hij hj' hnc (by omega) hcm' hgr (by omega) hroom ?_ ?_ ?_).mono ?_
        · intro q lb cb
          rw [run_callFunc_extern Tryz.func265 (by kernel_rfl) (by kernel_rfl) (by kernel_rfl) (e := Extern.SlicesOverlaps.overlaps #[24, 24] #[4]) (by kernel_rfl),
            Lib.run_overlaps_apart (w.drewN q) 24 4 123 qzp 3 qyx ⟨g, ((i + m) * 3), none⟩ a lb cb m vc (fun h => hva h.symm) e' tB cur.size kB (by simp [World.shape?, hg]) (by simpa [World.shape?] using hsb) hkB (by simp [World.frozen?, hg]) (by simp [World.frozen?, hg])]
          rfl
        · intro q ty dc sc
          have := run_copy_rows (P := Tryz.prog) (w.drewN q) 24 24 ty 123 3 g ((i + m) * 3) (n - j) dc ⟨g, j * 3, none⟩ (n - j) sc cur e' cs qzp qy6 hg (by rw [hcl, hmin2]) (fun q' v hq => by rw [Addr.add_lit]; simpa [World.cell?, hg] using get_drop htd q' v hq) hfa h1s
          rw [hmin2] at this
          simpa using this
        · intro q ty dc
          have := run_copy_rows (P := Tryz.prog) ((w.drewN q).setRow g (spl cur ((i + m) * 3) cs)) 24 24 ty 123 3 g (i * 3) (i + m + (n - j) - i) dc a m vc (spl cur ((i + m) * 3) cs) e' vs qzp qy6 (setRow_heap _ g cur _ e' _ hg) (by rw [hvl, hmin]) (fun q' v hq => by rw [cell_setRow hva]; exact hv q' v hq) hfb h1v
          rw [hmin] at this
          simpa using this
        · rintro en w' ⟨q, rfl, rfl⟩
          refine ⟨_, rfl, ⟨e', ?_⟩, ?_, fun b hb => .inl (by simp [Value.ownBlock] at hb; exact hb.symm)⟩
          · refine own_make (setRow_heap _ g _ _ e' _ (setRow_heap _ g cur _ e' _ hg)) hys hroom hcm (by rw [spl_size hfb, spl_size hfa]; exact hcs) ?_
            have d1 : (spl cur ((i + m) * 3) cs).toList.drop ((i + m) * 3) = cs ++ cur.toList.drop ((i + m) * 3 + cs.length) := by
              show List.drop _ (cur.toList.take ((i + m) * 3) ++ cs ++ cur.toList.drop ((i + m) * 3 + cs.length)) = _
              rw [List.append_assoc, List.drop_left' (by rw [List.length_take]; omega)]
            show List.take _ ((spl cur ((i + m) * 3) cs).toList.take (i * 3) ++ vs ++ (spl cur ((i + m) * 3) cs).toList.drop (i * 3 + vs.length)) = _
            rw [show i * 3 + vs.length = (i + m) * 3 by omega, d1, spl_take_lo (by omega) (by omega), htA, ← List.append_assoc]
            exact List.take_left' (by rw [← htA]; exact hys)
          · rw [setRow_setRow]
            exact (((qn6 w q).mono fun _ _ _ h => h.elim).trans (fr_row (w := w.drewN q) hg (by rw [spl_size hfb, spl_size hfa])))
      · have hfa : i * 3 + vs.length ≤ cur.size := by omega
        have hfb : (i + m) * 3 + cs.length ≤ (spl cur (i * 3) vs).size := by rw [spl_size hfa]; omega
        have hfc : (i + m + (n - j)) * 3 + (Builtin.zeroCells ((.agg #[.int .i64 0, .int .i64 0, .int .i64 0]) : Value).cells (n - (i + m + (n - j)))).toList.length ≤ (spl (spl cur (i * 3) vs) ((i + m) * 3) cs).size := by rw [spl_size hfb, spl_size hfa, lz]; omega
        have htd1 : ((spl cur (i * 3) vs).toList.drop (j * 3)).take ((n - j) * 3) = cs := by rw [spl_drop_hi (by omega) hfa]; exact htd
        refine (qvg g n c i j m vc a w (fun q => (w.drewN q).setRow g (spl cur (i * 3) vs)) (fun q => ((w.drewN q).setRow g (spl cur (i * 3) vs)).drew.setRow g (spl (spl cur (i * 3) vs) ((i + m) * 3) cs)) (fun q => (((w.drewN q).setRow g (spl cur (i * 3) vs)).drew.setRow g (spl (spl cur (i * 3) vs) ((i + m) * 3) cs)).setRow g (spl (spl (spl cur (i * 3) vs) ((i + m) * 3) cs) ((i + m + (n - j)) * 3) (Builtin.zeroCells ((.agg #[.int .i64 0, .int .i64 0, .int .i64 0]) : Value).cells (n - (i + m + (n - j)))).toList)) hij hj' hnc (by omega) hcm' (by omega) (by omega) ?_ ?_ ?_).mono ?_
        · intro q ty dc
          have := run_copy_rows (P := Tryz.prog) (w.drewN q) 24 24 ty 123 3 g (i * 3) (i + m + (n - j) - i) dc a m vc cur e' vs qzp qy6 hg (by rw [hvl, hmin]) hv hfa h1v
          rw [hmin] at this
          simpa using this
        · intro q ty dc sc
          have hh : ((w.drewN q).setRow g (spl cur (i * 3) vs)).drew.heap[g]? = some (.cells (spl cur (i * 3) vs) e' (0, 0)) := setRow_heap _ g cur _ e' _ hg
          have := run_copy_rows (P := Tryz.prog) ((w.drewN q).setRow g (spl cur (i * 3) vs)).drew 24 24 ty 123 3 g ((i + m) * 3) (n - j) dc ⟨g, j * 3, none⟩ (n - j) sc _ e' cs qzp qy6 hh (by rw [hcl, hmin2]) (fun q' v hq => cell_at hh (get_drop htd1 q' v hq)) hfb h1s
          rw [hmin2] at this
          simpa using this
        · intro q ty kc
          have := run_clear_rows (P := Tryz.prog) _ 24 123 ty (.agg #[.int .i64 0, .int .i64 0, .int .i64 0]) qzp q0i h1z g ((i + m + (n - j)) * 3) (n - (i + m + (n - j))) kc (by omega) _ e' (setRow_heap ((w.drewN q).setRow g (spl cur (i * 3) vs)).drew g _ (spl (spl cur (i * 3) vs) ((i + m) * 3) cs) e' _ (setRow_heap (w.drewN q) g cur _ e' _ hg)) hfc
          simpa using this
        · rintro en w' ⟨q, rfl, rfl⟩
          refine ⟨_, rfl, ⟨e', ?_⟩, ?_, fun b hb => .inl (by simp [Value.ownBlock] at hb; exact hb.symm)⟩
          · refine own_make (setRow_heap _ g _ _ e' _ (setRow_heap _ g _ _ e' _ (setRow_heap (w.drewN q) g cur _ e' _ hg))) hys hroom hcm (by rw [spl_size hfc, spl_size hfb, spl_size hfa]; exact hcs) ?_
            rw [spl_take_lo (by omega) (by rw [spl_size hfb, spl_size hfa]; omega)]
            have e1 := spl_take hfb
            rw [show (i + m) * 3 + cs.length = (i + m + (n - j)) * 3 by omega] at e1
            rw [e1]
            have e2 := spl_take hfa
            rw [show i * 3 + vs.length = (i + m) * 3 by omega] at e2
            rw [e2, htA]
          · have f1 := fr_row (w := w.drewN q) hg (spl_size hfa)
            have g1 := setRow_heap (w.drewN q) g cur (spl cur (i * 3) vs) e' _ hg
            have f2 := fr_row (w := ((w.drewN q).setRow g (spl cur (i * 3) vs)).drew) g1 (spl_size hfb)
            have g2 := setRow_heap ((w.drewN q).setRow g (spl cur (i * 3) vs)).drew g _ (spl (spl cur (i * 3) vs) ((i + m) * 3) cs) e' _ g1
            have f3 := fr_row g2 (spl_size hfc)
            exact ((qn6 w q).mono fun _ _ _ h => h.elim).trans (f1.trans (((fr_drew _).mono fun _ _ _ h => h.elim).trans (f2.trans f3)))
    · obtain ⟨ROW, hROW⟩ : ∃ ROW : Nat → Array Value, ROW = fun q => (xs.take (i * 3)).toArray ++ Builtin.zeroCells ((.agg #[.int .i64 0, .int .i64 0, .int .i64 0]) : Value).cells (m + (n - j)) ++ Builtin.zeroCells ((.agg #[.int .i64 0, .int .i64 0, .int .i64 0]) : Value).cells (grownCap (w.drewN q) (i + (m + (n - j))) c 123 - (i + (m + (n - j)))) := ⟨_, rfl⟩
      obtain ⟨G, hGd⟩ : ∃ G : Nat → Nat, G = fun q => grownCap (w.drewN q) (i + (m + (n - j))) c 123 := ⟨_, rfl⟩
      have hG : ∀ q, i + m + (n - j) ≤ G q := fun q => by have := grownCap_ge (w.drewN q) (i + (m + (n - j))) c 123; rw [hGd]; show i + m + (n - j) ≤ grownCap (w.drewN q) (i + (m + (n - j))) c 123; omega
      have hGm : ∀ q, G q ≤ maxLen := fun q => by rw [hGd]; exact grownCap_le_maxLen _ _ _ _ (by unfold maxLen; omega)
      have hrs : ∀ q, (ROW q).size = G q * 3 := fun q => by
        have := hG q
        rw [hGd] at this ⊢
        rw [hROW]
        simp only [Array.size_append, List.size_toArray, List.length_take]
        rw [← Array.length_toList (xs := Builtin.zeroCells _ _), lz, ← Array.length_toList (xs := Builtin.zeroCells _ _), lz]
        simp only at this
        omega
      have hrt : ∀ q, (ROW q).toList.take (i * 3) = xs.take (i * 3) := fun q => by
        rw [hROW]
        simp only [Array.toList_append, List.append_assoc]
        exact List.take_left' (by rw [List.length_take]; omega)
      have hap : ∀ q, (Builtin.append_ #[24, 3] 24 #[.slice (some ⟨g, 0, none⟩) i c, .int .i64 ((i : Int) + (m : Int) + ((n - j : Nat) : Int) - (i : Int))]).run Tryz.prog (w.drewN q) = .ok (.slice (some ⟨w.heap.size, 0, none⟩) (i + m + (n - j)) (G q)) ((w.drewN q).drew.alloc (.cells (ROW q) 123)) := fun q => by
        have hold : (Builtin.firstCells i0.size i (.slice (some ⟨g, 0, none⟩) i c)).run Tryz.prog (w.drewN q).drew = .ok (xs.take (i * 3)).toArray (w.drewN q).drew := by
          rw [hzs]
          exact run_firstCells_some _ 3 i ⟨g, 0, none⟩ i c _ (by rw [List.length_take]; omega) (fun q' v hq => by
            rw [Addr.add_lit]
            have := get_drop (cur := cur) (o := 0) (L := i * 3) (cs := xs.take (i * 3)) (by rw [List.drop_zero, htA]) q' v hq
            simpa [World.cell?, hg] using this)
        have h := Lib.run_append_grow_zeros (P := Tryz.prog) (w.drewN q) 24 3 24 123 i0 (.agg #[.int .i64 0, .int .i64 0, .int .i64 0]) .i64 .i64 qzp (by kernel_rfl) hi hz0 (some ⟨g, 0, none⟩) i c (xs.take (i * 3)) hold (m + (n - j)) (by omega) (by omega) (by omega) (by omega) (by rw [hzb]; omega) (by rw [hzb]; exact growslice_fits (by omega) (by omega))
        rw [show (i : Int) + (m : Int) + ((n - j : Nat) : Int) - (i : Int) = ((m + (n - j) : Nat) : Int) by omega, show i + m + (n - j) = i + (m + (n - j)) by omega, hGd, hROW]
        exact h
      have hfa : ∀ q, i * 3 + vs.length ≤ (ROW q).size := fun q => by rw [hrs q]; have := hG q; omega
      have hfb : ∀ q, (i + m) * 3 + cs.length ≤ (spl (ROW q) (i * 3) vs).size := fun q => by rw [spl_size (hfa q), hrs q]; have := hG q; omega
      have hnew : ∀ q, ((w.drewN q).drew.alloc (.cells (ROW q) 123)).heap[w.heap.size]? = some (.cells (ROW q) 123 (0, 0)) := fun q => heap_alloc_new (w.drewN q).drew _
      have hold : ∀ q b, b < w.heap.size → ((w.drewN q).drew.alloc (.cells (ROW q) 123)).heap[b]? = w.heap[b]? := fun q b hb => by
        show (w.heap.push _)[b]? = _
        rw [Array.getElem?_push, if_neg (by omega)]
      have hab : a.block < w.heap.size := block_lt_of_cell (hv 0 _ (List.getElem?_eq_getElem (show 0 < vs.length by omega)))
      refine (qvi g n c i j m vc w.heap.size a w G (fun q => (w.drewN q).drew.alloc (.cells (ROW q) 123)) (fun q => ((w.drewN q).drew.alloc (.cells (ROW q) 123)).setRow w.heap.size (spl (ROW q) (i * 3) vs)) (fun q => (((w.drewN q).drew.alloc (.cells (ROW q) 123)).setRow w.heap.size (spl (ROW q) (i * 3) vs)).drew.setRow w.heap.size (spl (spl (ROW q) (i * 3) vs) ((i + m) * 3) cs)) hij hj' hnc (by omega) hcm' (by omega) (by omega) hG hap ?_ ?_).mono ?_
      · intro q ty dc
        have := run_copy_rows (P := Tryz.prog) ((w.drewN q).drew.alloc (.cells (ROW q) 123)) 24 24 ty 123 3 w.heap.size (i * 3) (i + m + (n - j) - i) dc a m vc (ROW q) 123 vs qzp qy6 (hnew q) (by rw [hvl, hmin]) (fun q' v hq => by
          rw [← hv q' v hq]; simp only [World.cell?, addr_block]; rw [hold q a.block hab]) (hfa q) h1v
        rw [hmin] at this
        simpa using this
      · intro q ty dc sc
        have hh : (((w.drewN q).drew.alloc (.cells (ROW q) 123)).setRow w.heap.size (spl (ROW q) (i * 3) vs)).drew.heap[w.heap.size]? = some (.cells (spl (ROW q) (i * 3) vs) 123 (0, 0)) := setRow_heap _ _ _ _ 123 _ (hnew q)
        have hh2 : (((w.drewN q).drew.alloc (.cells (ROW q) 123)).setRow w.heap.size (spl (ROW q) (i * 3) vs)).drew.heap[g]? = some (.cells cur e' (0, 0)) := by
          show (((w.drewN q).drew.alloc (.cells (ROW q) 123)).setRow w.heap.size (spl (ROW q) (i * 3) vs)).heap[g]? = _
          rw [setRow_other _ w.heap.size g _ (by omega), hold q g hlt]; exact hg
        have := run_copy_rows (P := Tryz.prog) (((w.drewN q).drew.alloc (.cells (ROW q) 123)).setRow w.heap.size (spl (ROW q) (i * 3) vs)).drew 24 24 ty 123 3 w.heap.size ((i + m) * 3) (n - j) dc ⟨g, j * 3, none⟩ (n - j) sc _ 123 cs qzp qy6 hh (by rw [hcl, hmin2]) (fun q' v hq => cell_at hh2 (get_drop htd q' v hq)) (hfb q) h1s
        rw [hmin2] at this
        simpa using this
      · rintro en w' ⟨q, rfl, rfl⟩
        refine ⟨_, rfl, ⟨123, ?_⟩, ?_, fun b hb => .inr (by simp [Value.ownBlock] at hb; omega)⟩
        · refine own_make (setRow_heap _ _ _ _ 123 _ (setRow_heap _ _ _ _ 123 _ (hnew q))) hys (hG q) (hGm q) (by rw [spl_size (hfb q), spl_size (hfa q)]; exact hrs q) ?_
          have e1 := spl_take (hfb q)
          rw [show (i + m) * 3 + cs.length = (i + m + (n - j)) * 3 by omega] at e1
          rw [e1]
          have e2 := spl_take (hfa q)
          rw [show i * 3 + vs.length = (i + m) * 3 by omega] at e2
          rw [e2, hrt q]
        · have f0 : Fr (fun b _ => b = g ∨ w.heap.size ≤ b) w ((w.drewN q).drew.alloc (.cells (ROW q) 123)) := ((qn6 w q).mono fun _ _ _ h => h.elim).trans (((fr_drew _).mono fun _ _ _ h => h.elim).trans ((fr_alloc _ _).mono fun _ _ _ h => h.elim))
          have f1 := fr_new f0 (Nat.le_refl _) (hnew q) (spl_size (hfa q))
          have f2 := fr_new (f1.trans ((fr_drew _).mono fun _ _ _ h => h.elim)) (Nat.le_refl _) (setRow_heap _ _ _ _ 123 _ (hnew q)) (spl_size (hfb q))
          exact f2.mono fun x y hx h => h.elim id fun h => by omega
end Go.Proofs.YtoldpdhhfmlckaaGreat
end
section
namespace Go.Proofs.YtoldpdhhfmlckaaGreat
open Go.RowKit Go.Lib Go.Ev Go.Shelf

theorem qev (k : Nat) (z z' : Bool) (l v : List Int) (i j : Int) (hi : 0 ≤ i) (hij : i < j) (hj : j ≤ (l.length : Int)) (hv : 1 ≤ v.length) (hne : ¬ i + (v.length : Int) = j) (hl : l.length ≤ 1048576) (hvl : v.length ≤ 1048576) :
    go (k + 1) slices_Replace_int_int [.arr true z (.ints .i64 l), .int .i64 i, .int .i64 j, .arr false z' (.ints .i64 v)] = some [.arr true false (.ints .i64 (l.take i.toNat ++ v ++ l.drop j.toNat))] := by
  have e : go (k + 1) slices_Replace_int_int [.arr true z (.ints .i64 l), .int .i64 i, .int .i64 j, .arr false z' (.ints .i64 v)] = repGo (.ints .i64 l) (.ints .i64 v) i j := Eq.trans rfl rfl
  have hl' : (Arr.len (Arr.ints .i64 l)) = l.length := rfl
  have hv' : (Arr.len (Arr.ints .i64 v)) = v.length := rfl
  have hr : repA (.ints .i64 l) (.ints .i64 v) i.toNat j.toNat = some (.ints .i64 (l.take i.toNat ++ v ++ l.drop j.toNat)) := by
    have hd : List.take (l.length - j.toNat) (List.drop j.toNat l) = List.drop j.toNat l := List.take_of_length_le (by rw [List.length_drop]; omega)
    simp [repA, Arr.sub, Arr.app, Arr.len, hd]
  rw [e]
  unfold repGo
  rw [hl', hv', hr]
  simp [hi, hij, hj, hv, hne, show l.length ≤ 549755813888 by omega, show v.length ≤ 549755813888 by omega]
theorem qub (x : List Int) : okTs Tryz.prog [27] [.arr true false (.ints .i64 x)] = true := by kernel_rfl
set_option maxRecDepth 100000 in
theorem qo3 (ds rs : List D) (h : repI ds = some rs) : Contract Tryz.prog 240 [] ds rs := by
  unfold repI at h
  split at h
  · rename_i z l i j z' v
    unfold repGo at h
    cases hc : (decide (0 ≤ i) && decide (i < j) && decide (j ≤ ((Arr.len (Arr.ints .i64 l)) : Int)) && decide (1 ≤ (Arr.len (Arr.ints .i64 v))) && !decide (i + ((Arr.len (Arr.ints .i64 v)) : Int) = j) && decide ((Arr.len (Arr.ints .i64 l)) ≤ 549755813888) && decide ((Arr.len (Arr.ints .i64 v)) ≤ 549755813888))
    · rw [hc] at h; cases h
    rw [hc, qhn, Option.map_eq_some_iff] at h
    obtain ⟨c, hr, rfl⟩ := h
    simp only [Bool.and_eq_true, decide_eq_true_eq, Bool.not_eq_true', decide_eq_false_iff_not] at hc
    obtain ⟨⟨⟨⟨⟨⟨h1, h2⟩, h3⟩, h4⟩, h5⟩, h6⟩, h7⟩ := hc
    have hck : okTs Tryz.prog [27] [.arr true false c] = true := by
      have : c = .ints .i64 (l.take i.toNat ++ v ++ l.drop j.toNat) := by
        have hd : List.take (l.length - j.toNat) (List.drop j.toNat l) = List.drop j.toNat l := List.take_of_length_le (by rw [List.length_drop]; omega)
        simp [repA, Arr.sub, Arr.app, Arr.len, hd] at hr
        rw [← hr]; simp
      rw [this]; exact qub _
    refine rep_contract (fn := Tryz.f240) (S := 27) Tryz.func240 (by kernel_rfl) (by kernel_rfl) hck h1 h2 h3 h4 rfl hr (fun w g cap vc x e' own hx hv => ?_)
    exact qvf w g _ cap _ _ _ vc x _ _ e' (by omega) (by omega) h4 (by omega) h6 h7 own hx (Arr.cells_length _) hv (Arr.cells_one _) (Arr.cells_one _)
  · cases h

theorem qeu (k : Nat) (z z' : Bool) (l v : List (Int × Int × Int)) (i j : Int) (hi : 0 ≤ i) (hij : i < j) (hj : j ≤ (l.length : Int)) (hv : 1 ≤ v.length) (hne : ¬ i + (v.length : Int) = j) (hl : l.length ≤ 1048576) (hvl : v.length ≤ 1048576) :
    go (k + 1) slices_Replace_impl_Id_impl_Id [.arr true z (.r3 l), .int .i64 i, .int .i64 j, .arr false z' (.r3 v)] = some [.arr true false (.r3 (l.take i.toNat ++ v ++ l.drop j.toNat))] := by
  have e : go (k + 1) slices_Replace_impl_Id_impl_Id [.arr true z (.r3 l), .int .i64 i, .int .i64 j, .arr false z' (.r3 v)] = repGo (.r3 l) (.r3 v) i j := Eq.trans rfl rfl
  have hl' : (Arr.len (Arr.r3 l)) = l.length := rfl
  have hv' : (Arr.len (Arr.r3 v)) = v.length := rfl
  have hr : repA (.r3 l) (.r3 v) i.toNat j.toNat = some (.r3 (l.take i.toNat ++ v ++ l.drop j.toNat)) := by
    have hd : List.take (l.length - j.toNat) (List.drop j.toNat l) = List.drop j.toNat l := List.take_of_length_le (by rw [List.length_drop]; omega)
    simp [repA, Arr.sub, Arr.app, Arr.len, hd]
  rw [e]
  unfold repGo
  rw [hl', hv', hr]
  simp [hi, hij, hj, hv, hne, show l.length ≤ 549755813888 by omega, show v.length ≤ 549755813888 by omega]
theorem qua (x : List (Int × Int × Int)) : okTs Tryz.prog [24] [.arr true false (.r3 x)] = true := by kernel_rfl
set_option maxRecDepth 100000 in
theorem qo2 (ds rs : List D) (h : rep3 ds = some rs) : Contract Tryz.prog 254 [] ds rs := by
  unfold rep3 at h
  split at h
  · rename_i z l i j z' v
    unfold repGo at h
    cases hc : (decide (0 ≤ i) && decide (i < j) && decide (j ≤ ((Arr.len (Arr.r3 l)) : Int)) && decide (1 ≤ (Arr.len (Arr.r3 v))) && !decide (i + ((Arr.len (Arr.r3 v)) : Int) = j) && decide ((Arr.len (Arr.r3 l)) ≤ 549755813888) && decide ((Arr.len (Arr.r3 v)) ≤ 549755813888))
    · rw [hc] at h; cases h
    rw [hc, qhn, Option.map_eq_some_iff] at h
    obtain ⟨c, hr, rfl⟩ := h
    simp only [Bool.and_eq_true, decide_eq_true_eq, Bool.not_eq_true', decide_eq_false_iff_not] at hc
    obtain ⟨⟨⟨⟨⟨⟨h1, h2⟩, h3⟩, h4⟩, h5⟩, h6⟩, h7⟩ := hc
    have hck : okTs Tryz.prog [24] [.arr true false c] = true := by
      have : c = .r3 (l.take i.toNat ++ v ++ l.drop j.toNat) := by
        have hd : List.take (l.length - j.toNat) (List.drop j.toNat l) = List.drop j.toNat l := List.take_of_length_le (by rw [List.length_drop]; omega)
        simp [repA, Arr.sub, Arr.app, Arr.len, hd] at hr
        rw [← hr]; simp
      rw [this]; exact qua _
    refine rep_contract (fn := Tryz.f254) (S := 24) Tryz.func254 (by kernel_rfl) (by kernel_rfl) hck h1 h2 h3 h4 rfl hr (fun w g cap vc x e' own hx hv => ?_)
    exact qve w g _ cap _ _ _ vc x _ _ e' (by omega) (by omega) h4 (by omega) h6 h7 own hx (Arr.cells_length _) hv (Arr.cells_one _) (Arr.cells_one _)
  · cases h

theorem withExt : ∀ f g, An.ext f = some g → ∀ ds rs, g ds = some rs → Contract Tryz.prog f (An.mode f) ds rs := by
  intro f g h ds rs hd
  by_cases h1 : f = 240
  · subst h1
    have e : An.ext 240 = some repI := rfl
    rw [e] at h; cases h
    exact qo3 ds rs hd
  by_cases h2 : f = 254
  · subst h2
    have e : An.ext 254 = some rep3 := rfl
    rw [e] at h; cases h
    exact qo2 ds rs hd
  have n1 : Nat.beq f 240 = false := by cases b : Nat.beq f 240 with | false => rfl | true => exact absurd (Nat.eq_of_beq_eq_true b) h1
  have n2 : Nat.beq f 254 = false := by cases b : Nat.beq f 254 with | false => rfl | true => exact absurd (Nat.eq_of_beq_eq_true b) h2
  have e : An.ext f = none := by show cond (Nat.beq f 240) (some repI) (cond (Nat.beq f 254) (some rep3) none) = none; rw [n1, n2]; rfl
  rw [e] at h; cases h
end Go.Proofs.YtoldpdhhfmlckaaGreat
end
section
namespace Go.Proofs.YtoldpdhhfmlckaaGreat
open Go.Ev
theorem qmp (k : Nat) (a : Int) : go (k + 1) spec_SplitEven [(.int .i64 (a))] =
 cond (decide (a < (0 : Int)))
 (some [(.int .i64 (0 : Int)), (.int .i64 (0 : Int))])
 (some [(.int .i64 (IntKind.wrap .i64 (a - IntKind.wrap .i64 (Int.tdiv a (2 : Int))))), (.int .i64 (IntKind.wrap .i64 (Int.tdiv a (2 : Int))))]) := by kernel_rfl
theorem qi9 (k : Nat) (a : Int) : go (k + 1) impl_SplitEven [(.int .i64 (a))] =
 cond (decide (a < (0 : Int)))
 (some [(.int .i64 (0 : Int)), (.int .i64 (0 : Int))])
 (some [(.int .i64 (IntKind.wrap .i64 (a - IntKind.wrap .i64 (Int.tdiv a (2 : Int))))), (.int .i64 (IntKind.wrap .i64 (Int.tdiv a (2 : Int))))]) := by kernel_rfl
theorem qj3 (k : Nat) (a0 a1 a2 b : Int) : go (k + 1) impl_child [(.agg [(.int .i64 (a0)), (.int .i64 (a1)), (.int .i64 (a2))]), (.int .i64 (b))] =
 some [(.agg [(.int .i64 (a0)), (.int .i64 (IntKind.wrap .i64 (a1 + (1 : Int)))), (.int .i64 (IntKind.wrap .i64 (IntKind.wrap .i64 ((2 : Int) * a2) + b)))])] := by kernel_rfl
theorem qiy (k : Nat) (a0 : Int) (a1z : Bool) (a1 : List (Int × Int × Int)) (b : Int) : go (k + 1) impl_Mesh_refine [(.ptr true [(.int .i64 (a0)), (.arr true (a1z) (.r3 (a1)))]), (.int .i64 (b))] =
 cond (decide ((0 : Int) ≤ b) && decide (b < nI (List.length a1)))
 ((go k impl_child [(.agg [(.int .i64 (Prod.fst (List.getD a1 (Int.toNat b) zz3))), (.int .i64 (Prod.fst (Prod.snd (List.getD a1 (Int.toNat b) zz3)))), (.int .i64 (Prod.snd (Prod.snd (List.getD a1 (Int.toNat b) zz3))))]), (.int .i64 (0 : Int))]).bind fun r0 =>
 (go k impl_child [(.agg [(.int .i64 (Prod.fst (List.getD a1 (Int.toNat b) zz3))), (.int .i64 (Prod.fst (Prod.snd (List.getD a1 (Int.toNat b) zz3)))), (.int .i64 (Prod.snd (Prod.snd (List.getD a1 (Int.toNat b) zz3))))]), (.int .i64 ((1 : Int)))]).bind fun r1 =>
 (go k slices_Replace_impl_Id_impl_Id [(.arr true (a1z) (.r3 (a1))), (.int .i64 (b)), (.int .i64 (IntKind.wrap .i64 (b + (1 : Int)))), (.arr false (false) (.r3 ([(D.toInt (D.cell 0 (nth r0 0)), D.toInt (D.cell 1 (nth r0 0)), D.toInt (D.cell 2 (nth r0 0))), (D.toInt (D.cell 0 (nth r1 0)), D.toInt (D.cell 1 (nth r1 0)), D.toInt (D.cell 2 (nth r1 0)))])))]).bind fun r2 =>
 some [(.ptr true [(.int .i64 (a0)), (.arr true (D.nil (nth r2 0)) (.r3 (D.r3 (nth r2 0))))])])
 (none) := by kernel_rfl
theorem qit (k : Nat) (a0 : Int) (a1z : Bool) (a1 : List (Int × Int × Int)) (b : Int) : go (k + 1) impl_Mesh_coarsen [(.ptr true [(.int .i64 (a0)), (.arr true (a1z) (.r3 (a1)))]), (.int .i64 (b))] =
 cond (decide ((0 : Int) ≤ b) && decide (b < nI (List.length a1)))
 ((go k impl_ParentOf [(.agg [(.int .i64 (Prod.fst (List.getD a1 (Int.toNat b) zz3))), (.int .i64 (Prod.fst (Prod.snd (List.getD a1 (Int.toNat b) zz3)))), (.int .i64 (Prod.snd (Prod.snd (List.getD a1 (Int.toNat b) zz3))))])]).bind fun r0 =>
 (go k slices_Replace_impl_Id_impl_Id [(.arr true (a1z) (.r3 (a1))), (.int .i64 (b)), (.int .i64 (IntKind.wrap .i64 (b + (2 : Int)))), (.arr false (false) (.r3 ([(D.toInt (D.cell 0 (nth r0 0)), D.toInt (D.cell 1 (nth r0 0)), D.toInt (D.cell 2 (nth r0 0)))])))]).bind fun r1 =>
 some [(.ptr true [(.int .i64 (a0)), (.arr true (D.nil (nth r1 0)) (.r3 (D.r3 (nth r1 0))))])])
 (none) := by kernel_rfl
theorem qjq (k : Nat) (a0 : Int) (a1z : Bool) (a1 : List (Int × Int × Int)) (a2z : Bool) (a2 : List Int) (a3z : Bool) (a3 : List Int) (a4z : Bool) (a4 : List Int) (b : Int) : go (k + 1) impl_State_refine [(.ptr true [(.int .i64 (a0)), (.arr true (a1z) (.r3 (a1))), (.arr true (a2z) (.ints .i64 (a2))), (.arr true (a3z) (.ints .i64 (a3))), (.arr true (a4z) (.ints .i64 (a4)))]), (.int .i64 (b))] =
 cond (decide ((0 : Int) ≤ b) && decide (b < nI (List.length a2)))
 ((go k impl_SplitEven [(.int .i64 (List.getD a2 (Int.toNat b) (0 : Int)))]).bind fun r0 =>
 cond (decide ((0 : Int) ≤ b) && decide (b < nI (List.length a3)))
 (cond (decide ((0 : Int) ≤ b) && decide (b < nI (List.length a2)))
 ((go k impl_ShareOut [(.int .i64 (List.getD a3 (Int.toNat b) (0 : Int))), (.int .i64 (D.toInt (nth r0 0))), (.int .i64 (List.getD a2 (Int.toNat b) (0 : Int)))]).bind fun r1 =>
 (go k impl_Mesh_refine [(.ptr true [(.int .i64 (a0)), (.arr true (a1z) (.r3 (a1)))]), (.int .i64 (b))]).bind fun r2 =>
 (go k slices_Replace_int_int [(.arr true (a2z) (.ints .i64 (a2))), (.int .i64 (b)), (.int .i64 (IntKind.wrap .i64 (b + (1 : Int)))), (.arr false (false) (.ints .i64 ([D.toInt (nth r0 0), D.toInt (nth r0 1)])))]).bind fun r3 =>
 cond (decide ((0 : Int) ≤ b) && decide (b < nI (List.length a3)))
 ((go k slices_Replace_int_int [(.arr true (a3z) (.ints .i64 (a3))), (.int .i64 (b)), (.int .i64 (IntKind.wrap .i64 (b + (1 : Int)))), (.arr false (false) (.ints .i64 ([D.toInt (nth r1 0), IntKind.wrap .i64 (List.getD a3 (Int.toNat b) (0 : Int) - D.toInt (nth r1 0))])))]).bind fun r4 =>
 some [(.ptr true [(.int .i64 (D.toInt (D.cell 0 (nth r2 0)))), (.arr true (D.nil (D.cell 1 (nth r2 0))) (.r3 (D.r3 (D.cell 1 (nth r2 0))))), (.arr true (D.nil (nth r3 0)) (.ints .i64 (D.ints (nth r3 0)))), (.arr true (D.nil (nth r4 0)) (.ints .i64 (D.ints (nth r4 0)))), (.arr true (a4z) (.ints .i64 (a4)))])])
 (none))
 (none))
 (none))
 (none) := by kernel_rfl
theorem qjf (k : Nat) (a0 : Int) (a1z : Bool) (a1 : List (Int × Int × Int)) (a2z : Bool) (a2 : List Int) (a3z : Bool) (a3 : List Int) (a4z : Bool) (a4 : List Int) (b : Int) : go (k + 1) impl_State_coarsen [(.ptr true [(.int .i64 (a0)), (.arr true (a1z) (.r3 (a1))), (.arr true (a2z) (.ints .i64 (a2))), (.arr true (a3z) (.ints .i64 (a3))), (.arr true (a4z) (.ints .i64 (a4)))]), (.int .i64 (b))] =
 (go k impl_Mesh_coarsen [(.ptr true [(.int .i64 (a0)), (.arr true (a1z) (.r3 (a1)))]), (.int .i64 (b))]).bind fun r0 =>
 cond (decide ((0 : Int) ≤ b) && decide (b < nI (List.length a2)))
 (cond (decide ((0 : Int) ≤ IntKind.wrap .i64 (b + (1 : Int))) && decide (IntKind.wrap .i64 (b + (1 : Int)) < nI (List.length a2)))
 ((go k slices_Replace_int_int [(.arr true (a2z) (.ints .i64 (a2))), (.int .i64 (b)), (.int .i64 (IntKind.wrap .i64 (b + (2 : Int)))), (.arr false (false) (.ints .i64 ([IntKind.wrap .i64 (List.getD a2 (Int.toNat b) (0 : Int) + List.getD a2 (Int.toNat (IntKind.wrap .i64 (b + (1 : Int)))) (0 : Int))])))]).bind fun r1 =>
 cond (decide ((0 : Int) ≤ b) && decide (b < nI (List.length a3)))
 (cond (decide ((0 : Int) ≤ IntKind.wrap .i64 (b + (1 : Int))) && decide (IntKind.wrap .i64 (b + (1 : Int)) < nI (List.length a3)))
 ((go k slices_Replace_int_int [(.arr true (a3z) (.ints .i64 (a3))), (.int .i64 (b)), (.int .i64 (IntKind.wrap .i64 (b + (2 : Int)))), (.arr false (false) (.ints .i64 ([IntKind.wrap .i64 (List.getD a3 (Int.toNat b) (0 : Int) + List.getD a3 (Int.toNat (IntKind.wrap .i64 (b + (1 : Int)))) (0 : Int))])))]).bind fun r2 =>
 some [(.ptr true [(.int .i64 (D.toInt (D.cell 0 (nth r0 0)))), (.arr true (D.nil (D.cell 1 (nth r0 0))) (.r3 (D.r3 (D.cell 1 (nth r0 0))))), (.arr true (D.nil (nth r1 0)) (.ints .i64 (D.ints (nth r1 0)))), (.arr true (D.nil (nth r2 0)) (.ints .i64 (D.ints (nth r2 0)))), (.arr true (a4z) (.ints .i64 (a4)))])])
 (none))
 (none))
 (none))
 (none) := by kernel_rfl
theorem qm7 (k : Nat) (a0 : Int) (a1z : Bool) (a1 : List (Int × Int × Int)) (a2z : Bool) (a2 : List Int) (a3z : Bool) (a3 : List Int) (a4z : Bool) (a4 : List Int) (b : Int) : go (k + 1) spec_l08Split [(.agg [(.int .i64 (a0)), (.arr false (a1z) (.r3 (a1))), (.arr false (a2z) (.ints .i64 (a2))), (.arr false (a3z) (.ints .i64 (a3))), (.arr false (a4z) (.ints .i64 (a4)))]), (.int .i64 (b))] =
 cond (decide ((0 : Int) ≤ b) && decide (b < nI (List.length a2)))
 ((go k spec_SplitEven [(.int .i64 (List.getD a2 (Int.toNat b) (0 : Int)))]).bind fun r0 =>
 cond (decide ((0 : Int) ≤ b) && decide (b < nI (List.length a3)))
 (cond (decide ((0 : Int) ≤ b) && decide (b < nI (List.length a2)))
 ((go k spec_ShareOut [(.int .i64 (List.getD a3 (Int.toNat b) (0 : Int))), (.int .i64 (D.toInt (nth r0 0))), (.int .i64 (List.getD a2 (Int.toNat b) (0 : Int)))]).bind fun r1 =>
 cond (decide ((0 : Int) ≤ (0 : Int)) && decide ((0 : Int) ≤ b) && decide (b ≤ nI (List.length a2)))
 (cond (decide (List.length ([] ++ List.take (Int.toNat b - Int.toNat (0 : Int)) (List.drop (0 + Int.toNat (0 : Int)) a2)) ≤ bigLen))
 (cond (decide (List.length ([] ++ List.take (Int.toNat b - Int.toNat (0 : Int)) (List.drop (0 + Int.toNat (0 : Int)) a2) ++ [D.toInt (nth r0 0), D.toInt (nth r0 1)]) ≤ bigLen))
 (cond (decide ((0 : Int) ≤ (0 : Int)) && decide ((0 : Int) ≤ b) && decide (b ≤ nI (List.length a3)))
 (cond (decide (List.length ([] ++ List.take (Int.toNat b - Int.toNat (0 : Int)) (List.drop (0 + Int.toNat (0 : Int)) a3)) ≤ bigLen))
 (cond (decide ((0 : Int) ≤ b) && decide (b < nI (List.length a3)))
 (cond (decide (List.length ([] ++ List.take (Int.toNat b - Int.toNat (0 : Int)) (List.drop (0 + Int.toNat (0 : Int)) a3) ++ [D.toInt (nth r1 0), IntKind.wrap .i64 (List.getD a3 (Int.toNat b) (0 : Int) - D.toInt (nth r1 0))]) ≤ bigLen))
 ((go k spec_l05Split [(.agg [(.int .i64 (a0)), (.arr false (a1z) (.r3 (a1)))]), (.int .i64 (b))]).bind fun r2 =>
 cond (decide ((0 : Int) ≤ IntKind.wrap .i64 (b + (1 : Int))) && decide (IntKind.wrap .i64 (b + (1 : Int)) ≤ nI (List.length a2)) && decide (nI (List.length a2) ≤ nI (List.length a2)))
 (cond (decide (List.length ([] ++ List.take (Int.toNat b - Int.toNat (0 : Int)) (List.drop (0 + Int.toNat (0 : Int)) a2) ++ [D.toInt (nth r0 0), D.toInt (nth r0 1)] ++ List.take (Int.toNat (nI (List.length a2)) - Int.toNat (IntKind.wrap .i64 (b + (1 : Int)))) (List.drop (0 + Int.toNat (IntKind.wrap .i64 (b + (1 : Int)))) a2)) ≤ bigLen))
 (cond (decide ((0 : Int) ≤ IntKind.wrap .i64 (b + (1 : Int))) && decide (IntKind.wrap .i64 (b + (1 : Int)) ≤ nI (List.length a3)) && decide (nI (List.length a3) ≤ nI (List.length a3)))
 (cond (decide (List.length ([] ++ List.take (Int.toNat b - Int.toNat (0 : Int)) (List.drop (0 + Int.toNat (0 : Int)) a3) ++ [D.toInt (nth r1 0), IntKind.wrap .i64 (List.getD a3 (Int.toNat b) (0 : Int) - D.toInt (nth r1 0))] ++ List.take (Int.toNat (nI (List.length a3)) - Int.toNat (IntKind.wrap .i64 (b + (1 : Int)))) (List.drop (0 + Int.toNat (IntKind.wrap .i64 (b + (1 : Int)))) a3)) ≤ bigLen))
 (cond (decide (List.length ([] ++ a4) ≤ bigLen))
 (some [(.agg [(.int .i64 (D.toInt (D.cell 0 (nth r2 0)))), (.arr true (D.nil (D.cell 1 (nth r2 0))) (.r3 (D.r3 (D.cell 1 (nth r2 0))))), (.arr true (false && decide (List.length ([] ++ List.take (Int.toNat b - Int.toNat (0 : Int)) (List.drop (0 + Int.toNat (0 : Int)) a2)) = 0) && decide (List.length ([] ++ List.take (Int.toNat b - Int.toNat (0 : Int)) (List.drop (0 + Int.toNat (0 : Int)) a2) ++ [D.toInt (nth r0 0), D.toInt (nth r0 1)]) = 0) && decide (List.length ([] ++ List.take (Int.toNat b - Int.toNat (0 : Int)) (List.drop (0 + Int.toNat (0 : Int)) a2) ++ [D.toInt (nth r0 0), D.toInt (nth r0 1)] ++ List.take (Int.toNat (nI (List.length a2)) - Int.toNat (IntKind.wrap .i64 (b + (1 : Int)))) (List.drop (0 + Int.toNat (IntKind.wrap .i64 (b + (1 : Int)))) a2)) = 0)) (.ints .i64 ([] ++ List.take (Int.toNat b - Int.toNat (0 : Int)) (List.drop (0 + Int.toNat (0 : Int)) a2) ++ [D.toInt (nth r0 0), D.toInt (nth r0 1)] ++ List.take (Int.toNat (nI (List.length a2)) - Int.toNat (IntKind.wrap .i64 (b + (1 : Int)))) (List.drop (0 + Int.toNat (IntKind.wrap .i64 (b + (1 : Int)))) a2)))), (.arr true (false && decide (List.length ([] ++ List.take (Int.toNat b - Int.toNat (0 : Int)) (List.drop (0 + Int.toNat (0 : Int)) a3)) = 0) && decide (List.length ([] ++ List.take (Int.toNat b - Int.toNat (0 : Int)) (List.drop (0 + Int.toNat (0 : Int)) a3) ++ [D.toInt (nth r1 0), IntKind.wrap .i64 (List.getD a3 (Int.toNat b) (0 : Int) - D.toInt (nth r1 0))]) = 0) && decide (List.length ([] ++ List.take (Int.toNat b - Int.toNat (0 : Int)) (List.drop (0 + Int.toNat (0 : Int)) a3) ++ [D.toInt (nth r1 0), IntKind.wrap .i64 (List.getD a3 (Int.toNat b) (0 : Int) - D.toInt (nth r1 0))] ++ List.take (Int.toNat (nI (List.length a3)) - Int.toNat (IntKind.wrap .i64 (b + (1 : Int)))) (List.drop (0 + Int.toNat (IntKind.wrap .i64 (b + (1 : Int)))) a3)) = 0)) (.ints .i64 ([] ++ List.take (Int.toNat b - Int.toNat (0 : Int)) (List.drop (0 + Int.toNat (0 : Int)) a3) ++ [D.toInt (nth r1 0), IntKind.wrap .i64 (List.getD a3 (Int.toNat b) (0 : Int) - D.toInt (nth r1 0))] ++ List.take (Int.toNat (nI (List.length a3)) - Int.toNat (IntKind.wrap .i64 (b + (1 : Int)))) (List.drop (0 + Int.toNat (IntKind.wrap .i64 (b + (1 : Int)))) a3)))), (.arr true (false && decide (List.length ([] ++ a4) = 0)) (.ints .i64 ([] ++ a4)))])])
 (none))
 (none))
 (none))
 (none))
 (none))
 (none))
 (none))
 (none))
 (none))
 (none))
 (none))
 (none))
 (none))
 (none))
 (none) := by kernel_rfl
theorem qm6 (k : Nat) (a0 : Int) (a1z : Bool) (a1 : List (Int × Int × Int)) (a2z : Bool) (a2 : List Int) (a3z : Bool) (a3 : List Int) (a4z : Bool) (a4 : List Int) (b : Int) : go (k + 1) spec_l08Merge [(.agg [(.int .i64 (a0)), (.arr false (a1z) (.r3 (a1))), (.arr false (a2z) (.ints .i64 (a2))), (.arr false (a3z) (.ints .i64 (a3))), (.arr false (a4z) (.ints .i64 (a4)))]), (.int .i64 (b))] =
 cond (decide ((0 : Int) ≤ (0 : Int)) && decide ((0 : Int) ≤ b) && decide (b ≤ nI (List.length a2)))
 (cond (decide (List.length ([] ++ List.take (Int.toNat b - Int.toNat (0 : Int)) (List.drop (0 + Int.toNat (0 : Int)) a2)) ≤ bigLen))
 (cond (decide ((0 : Int) ≤ b) && decide (b < nI (List.length a2)))
 (cond (decide ((0 : Int) ≤ IntKind.wrap .i64 (b + (1 : Int))) && decide (IntKind.wrap .i64 (b + (1 : Int)) < nI (List.length a2)))
 (cond (decide (List.length ([] ++ List.take (Int.toNat b - Int.toNat (0 : Int)) (List.drop (0 + Int.toNat (0 : Int)) a2) ++ [IntKind.wrap .i64 (List.getD a2 (Int.toNat b) (0 : Int) + List.getD a2 (Int.toNat (IntKind.wrap .i64 (b + (1 : Int)))) (0 : Int))]) ≤ bigLen))
 (cond (decide ((0 : Int) ≤ (0 : Int)) && decide ((0 : Int) ≤ b) && decide (b ≤ nI (List.length a3)))
 (cond (decide (List.length ([] ++ List.take (Int.toNat b - Int.toNat (0 : Int)) (List.drop (0 + Int.toNat (0 : Int)) a3)) ≤ bigLen))
 (cond (decide ((0 : Int) ≤ b) && decide (b < nI (List.length a3)))
 (cond (decide ((0 : Int) ≤ IntKind.wrap .i64 (b + (1 : Int))) && decide (IntKind.wrap .i64 (b + (1 : Int)) < nI (List.length a3)))
 (cond (decide (List.length ([] ++ List.take (Int.toNat b - Int.toNat (0 : Int)) (List.drop (0 + Int.toNat (0 : Int)) a3) ++ [IntKind.wrap .i64 (List.getD a3 (Int.toNat b) (0 : Int) + List.getD a3 (Int.toNat (IntKind.wrap .i64 (b + (1 : Int)))) (0 : Int))]) ≤ bigLen))
 ((go k spec_l06Merge [(.agg [(.int .i64 (a0)), (.arr false (a1z) (.r3 (a1)))]), (.int .i64 (b))]).bind fun r0 =>
 cond (decide ((0 : Int) ≤ IntKind.wrap .i64 (b + (2 : Int))) && decide (IntKind.wrap .i64 (b + (2 : Int)) ≤ nI (List.length a2)) && decide (nI (List.length a2) ≤ nI (List.length a2)))
 (cond (decide (List.length ([] ++ List.take (Int.toNat b - Int.toNat (0 : Int)) (List.drop (0 + Int.toNat (0 : Int)) a2) ++ [IntKind.wrap .i64 (List.getD a2 (Int.toNat b) (0 : Int) + List.getD a2 (Int.toNat (IntKind.wrap .i64 (b + (1 : Int)))) (0 : Int))] ++ List.take (Int.toNat (nI (List.length a2)) - Int.toNat (IntKind.wrap .i64 (b + (2 : Int)))) (List.drop (0 + Int.toNat (IntKind.wrap .i64 (b + (2 : Int)))) a2)) ≤ bigLen))
 (cond (decide ((0 : Int) ≤ IntKind.wrap .i64 (b + (2 : Int))) && decide (IntKind.wrap .i64 (b + (2 : Int)) ≤ nI (List.length a3)) && decide (nI (List.length a3) ≤ nI (List.length a3)))
 (cond (decide (List.length ([] ++ List.take (Int.toNat b - Int.toNat (0 : Int)) (List.drop (0 + Int.toNat (0 : Int)) a3) ++ [IntKind.wrap .i64 (List.getD a3 (Int.toNat b) (0 : Int) + List.getD a3 (Int.toNat (IntKind.wrap .i64 (b + (1 : Int)))) (0 : Int))] ++ List.take (Int.toNat (nI (List.length a3)) - Int.toNat (IntKind.wrap .i64 (b + (2 : Int)))) (List.drop (0 + Int.toNat (IntKind.wrap .i64 (b + (2 : Int)))) a3)) ≤ bigLen))
 (cond (decide (List.length ([] ++ a4) ≤ bigLen))
 (some [(.agg [(.int .i64 (D.toInt (D.cell 0 (nth r0 0)))), (.arr true (D.nil (D.cell 1 (nth r0 0))) (.r3 (D.r3 (D.cell 1 (nth r0 0))))), (.arr true (false && decide (List.length ([] ++ List.take (Int.toNat b - Int.toNat (0 : Int)) (List.drop (0 + Int.toNat (0 : Int)) a2)) = 0) && decide (List.length ([] ++ List.take (Int.toNat b - Int.toNat (0 : Int)) (List.drop (0 + Int.toNat (0 : Int)) a2) ++ [IntKind.wrap .i64 (List.getD a2 (Int.toNat b) (0 : Int) + List.getD a2 (Int.toNat (IntKind.wrap .i64 (b + (1 : Int)))) (0 : Int))]) = 0) && decide (List.length ([] ++ List.take (Int.toNat b - Int.toNat (0 : Int)) (List.drop (0 + Int.toNat (0 : Int)) a2) ++ [IntKind.wrap .i64 (List.getD a2 (Int.toNat b) (0 : Int) + List.getD a2 (Int.toNat (IntKind.wrap .i64 (b + (1 : Int)))) (0 : Int))] ++ List.take (Int.toNat (nI (List.length a2)) - Int.toNat (IntKind.wrap .i64 (b + (2 : Int)))) (List.drop (0 + Int.toNat (IntKind.wrap .i64 (b + (2 : Int)))) a2)) = 0)) (.ints .i64 ([] ++ List.take (Int.toNat b - Int.toNat (0 : Int)) (List.drop (0 + Int.toNat (0 : Int)) a2) ++ [IntKind.wrap .i64 (List.getD a2 (Int.toNat b) (0 : Int) + List.getD a2 (Int.toNat (IntKind.wrap .i64 (b + (1 : Int)))) (0 : Int))] ++ List.take (Int.toNat (nI (List.length a2)) - Int.toNat (IntKind.wrap .i64 (b + (2 : Int)))) (List.drop (0 + Int.toNat (IntKind.wrap .i64 (b + (2 : Int)))) a2)))), (.arr true (false && decide (List.length ([] ++ List.take (Int.toNat b - Int.toNat (0 : Int)) (List.drop (0 + Int.toNat (0 : Int)) a3)) = 0) && decide (List.length ([] ++ List.take (Int.toNat b - Int.toNat (0 : Int)) (List.drop (0 + Int.toNat (0 : Int)) a3) ++ [IntKind.wrap .i64 (List.getD a3 (Int.toNat b) (0 : Int) + List.getD a3 (Int.toNat (IntKind.wrap .i64 (b + (1 : Int)))) (0 : Int))]) = 0) && decide (List.length ([] ++ List.take (Int.toNat b - Int.toNat (0 : Int)) (List.drop (0 + Int.toNat (0 : Int)) a3) ++ [IntKind.wrap .i64 (List.getD a3 (Int.toNat b) (0 : Int) + List.getD a3 (Int.toNat (IntKind.wrap .i64 (b + (1 : Int)))) (0 : Int))] ++ List.take (Int.toNat (nI (List.length a3)) - Int.toNat (IntKind.wrap .i64 (b + (2 : Int)))) (List.drop (0 + Int.toNat (IntKind.wrap .i64 (b + (2 : Int)))) a3)) = 0)) (.ints .i64 ([] ++ List.take (Int.toNat b - Int.toNat (0 : Int)) (List.drop (0 + Int.toNat (0 : Int)) a3) ++ [IntKind.wrap .i64 (List.getD a3 (Int.toNat b) (0 : Int) + List.getD a3 (Int.toNat (IntKind.wrap .i64 (b + (1 : Int)))) (0 : Int))] ++ List.take (Int.toNat (nI (List.length a3)) - Int.toNat (IntKind.wrap .i64 (b + (2 : Int)))) (List.drop (0 + Int.toNat (IntKind.wrap .i64 (b + (2 : Int)))) a3)))), (.arr true (false && decide (List.length ([] ++ a4) = 0)) (.ints .i64 ([] ++ a4)))])])
 (none))
 (none))
 (none))
 (none))
 (none))
 (none))
 (none))
 (none))
 (none))
 (none))
 (none))
 (none))
 (none))
 (none))
 (none) := by kernel_rfl
theorem qm2 (k : Nat) (a0 : Int) (a1z : Bool) (a1 : List (Int × Int × Int)) (b : Int) : go (k + 1) spec_l06Merge [(.agg [(.int .i64 (a0)), (.arr false (a1z) (.r3 (a1)))]), (.int .i64 (b))] =
 cond (decide ((0 : Int) ≤ b) && decide (b < nI (List.length a1)))
 ((go k spec_ParentOf [(.agg [(.int .i64 (Prod.fst (List.getD a1 (Int.toNat b) zz3))), (.int .i64 (Prod.fst (Prod.snd (List.getD a1 (Int.toNat b) zz3)))), (.int .i64 (Prod.snd (Prod.snd (List.getD a1 (Int.toNat b) zz3))))])]).bind fun r0 =>
 cond (decide ((0 : Int) ≤ (0 : Int)) && decide ((0 : Int) ≤ b) && decide (b ≤ nI (List.length a1)))
 (cond (decide (List.length ([] ++ List.take (Int.toNat b - Int.toNat (0 : Int)) (List.drop (0 + Int.toNat (0 : Int)) a1)) ≤ bigLen))
 (cond (decide (List.length ([] ++ List.take (Int.toNat b - Int.toNat (0 : Int)) (List.drop (0 + Int.toNat (0 : Int)) a1) ++ [(D.toInt (D.cell 0 (nth r0 0)), D.toInt (D.cell 1 (nth r0 0)), D.toInt (D.cell 2 (nth r0 0)))]) ≤ bigLen))
 (cond (decide ((0 : Int) ≤ IntKind.wrap .i64 (b + (2 : Int))) && decide (IntKind.wrap .i64 (b + (2 : Int)) ≤ nI (List.length a1)) && decide (nI (List.length a1) ≤ nI (List.length a1)))
 (cond (decide (List.length ([] ++ List.take (Int.toNat b - Int.toNat (0 : Int)) (List.drop (0 + Int.toNat (0 : Int)) a1) ++ [(D.toInt (D.cell 0 (nth r0 0)), D.toInt (D.cell 1 (nth r0 0)), D.toInt (D.cell 2 (nth r0 0)))] ++ List.take (Int.toNat (nI (List.length a1)) - Int.toNat (IntKind.wrap .i64 (b + (2 : Int)))) (List.drop (0 + Int.toNat (IntKind.wrap .i64 (b + (2 : Int)))) a1)) ≤ bigLen))
 (some [(.agg [(.int .i64 (a0)), (.arr true (false && decide (List.length ([] ++ List.take (Int.toNat b - Int.toNat (0 : Int)) (List.drop (0 + Int.toNat (0 : Int)) a1)) = 0) && decide (List.length ([] ++ List.take (Int.toNat b - Int.toNat (0 : Int)) (List.drop (0 + Int.toNat (0 : Int)) a1) ++ [(D.toInt (D.cell 0 (nth r0 0)), D.toInt (D.cell 1 (nth r0 0)), D.toInt (D.cell 2 (nth r0 0)))]) = 0) && decide (List.length ([] ++ List.take (Int.toNat b - Int.toNat (0 : Int)) (List.drop (0 + Int.toNat (0 : Int)) a1) ++ [(D.toInt (D.cell 0 (nth r0 0)), D.toInt (D.cell 1 (nth r0 0)), D.toInt (D.cell 2 (nth r0 0)))] ++ List.take (Int.toNat (nI (List.length a1)) - Int.toNat (IntKind.wrap .i64 (b + (2 : Int)))) (List.drop (0 + Int.toNat (IntKind.wrap .i64 (b + (2 : Int)))) a1)) = 0)) (.r3 ([] ++ List.take (Int.toNat b - Int.toNat (0 : Int)) (List.drop (0 + Int.toNat (0 : Int)) a1) ++ [(D.toInt (D.cell 0 (nth r0 0)), D.toInt (D.cell 1 (nth r0 0)), D.toInt (D.cell 2 (nth r0 0)))] ++ List.take (Int.toNat (nI (List.length a1)) - Int.toNat (IntKind.wrap .i64 (b + (2 : Int)))) (List.drop (0 + Int.toNat (IntKind.wrap .i64 (b + (2 : Int)))) a1))))])])
 (none))
 (none))
 (none))
 (none))
 (none))
 (none) := by kernel_rfl
theorem qmi (k : Nat) (a0 a1 a2 : Int) : go (k + 1) spec_ParentOf [(.agg [(.int .i64 (a0)), (.int .i64 (a1)), (.int .i64 (a2))])] =
 (go k spec_IdOk [(.agg [(.int .i64 (a0)), (.int .i64 (a1)), (.int .i64 (a2))])]).bind fun r0 =>
 cond (!bit (nth r0 0))
 (some [(.agg [(.int .i64 (0 : Int)), (.int .i64 (0 : Int)), (.int .i64 (0 : Int))]), (.bool (false))])
 (cond (decide (a1 = (0 : Int)))
 (some [(.agg [(.int .i64 (0 : Int)), (.int .i64 (0 : Int)), (.int .i64 (0 : Int))]), (.bool (false))])
 (some [(.agg [(.int .i64 (a0)), (.int .i64 (IntKind.wrap .i64 (a1 - (1 : Int)))), (.int .i64 (IntKind.wrap .i64 (Int.tdiv a2 (2 : Int))))]), (.bool (true))])) := by kernel_rfl
theorem qi1 (k : Nat) (a0 a1 a2 : Int) : go (k + 1) impl_ParentOf [(.agg [(.int .i64 (a0)), (.int .i64 (a1)), (.int .i64 (a2))])] =
 (go k impl_IdOk [(.agg [(.int .i64 (a0)), (.int .i64 (a1)), (.int .i64 (a2))])]).bind fun r0 =>
 cond (!bit (nth r0 0))
 (some [(.agg [(.int .i64 (0 : Int)), (.int .i64 (0 : Int)), (.int .i64 (0 : Int))]), (.bool (false))])
 (cond (decide (a1 = (0 : Int)))
 (some [(.agg [(.int .i64 (0 : Int)), (.int .i64 (0 : Int)), (.int .i64 (0 : Int))]), (.bool (false))])
 (some [(.agg [(.int .i64 (a0)), (.int .i64 (IntKind.wrap .i64 (a1 - (1 : Int)))), (.int .i64 (IntKind.wrap .i64 (Int.tdiv a2 (2 : Int))))]), (.bool (true))])) := by kernel_rfl
theorem qmc (k : Nat) (a0 a1 a2 b0 b1 b2 : Int) : go (k + 1) spec_IsSibling [(.agg [(.int .i64 (a0)), (.int .i64 (a1)), (.int .i64 (a2))]), (.agg [(.int .i64 (b0)), (.int .i64 (b1)), (.int .i64 (b2))])] =
 (go k spec_IdOk [(.agg [(.int .i64 (a0)), (.int .i64 (a1)), (.int .i64 (a2))])]).bind fun r0 =>
 cond (bit (nth r0 0))
 ((go k spec_IdOk [(.agg [(.int .i64 (b0)), (.int .i64 (b1)), (.int .i64 (b2))])]).bind fun r1 =>
 cond (bit (nth r1 0))
 (cond (decide (a0 = b0))
 (cond (decide (a1 = b1))
 (cond (decide (Int.tmod a2 (2 : Int) = (0 : Int)))
 (some [(.bool (decide (b2 = IntKind.wrap .i64 (a2 + (1 : Int)))))])
 (some [(.bool (false))]))
 (some [(.bool (false))]))
 (some [(.bool (false))]))
 (some [(.bool (false))]))
 (some [(.bool (false))]) := by kernel_rfl
theorem qim (k : Nat) (a0 a1 a2 b0 b1 b2 : Int) : go (k + 1) impl_IsSibling [(.agg [(.int .i64 (a0)), (.int .i64 (a1)), (.int .i64 (a2))]), (.agg [(.int .i64 (b0)), (.int .i64 (b1)), (.int .i64 (b2))])] =
 (go k impl_ParentOf [(.agg [(.int .i64 (a0)), (.int .i64 (a1)), (.int .i64 (a2))])]).bind fun r0 =>
 (go k impl_ParentOf [(.agg [(.int .i64 (b0)), (.int .i64 (b1)), (.int .i64 (b2))])]).bind fun r1 =>
 cond (bit (nth r0 1))
 (cond (bit (nth r1 1))
 (cond (decide (D.toInt (D.cell 0 (nth r0 0)) = D.toInt (D.cell 0 (nth r1 0))) && (decide (D.toInt (D.cell 1 (nth r0 0)) = D.toInt (D.cell 1 (nth r1 0))) && (decide (D.toInt (D.cell 2 (nth r0 0)) = D.toInt (D.cell 2 (nth r1 0))) && true)))
 (cond (decide (Int.tmod a2 (2 : Int) = (0 : Int)))
 (some [(.bool (decide (b2 = IntKind.wrap .i64 (a2 + (1 : Int)))))])
 (some [(.bool (false))]))
 (some [(.bool (false))]))
 (some [(.bool (false))]))
 (some [(.bool (false))]) := by kernel_rfl
theorem qm1 (k : Nat) (a0 : Int) (a1z : Bool) (a1 : List (Int × Int × Int)) (b : Int) : go (k + 1) spec_l06May [(.agg [(.int .i64 (a0)), (.arr false (a1z) (.r3 (a1)))]), (.int .i64 (b))] =
 cond (decide ((0 : Int) ≤ b) && decide (b < nI (List.length a1)))
 (cond (decide ((0 : Int) ≤ b) && decide (b < nI (List.length a1)))
 (cond (decide ((0 : Int) ≤ IntKind.wrap .i64 (b + (1 : Int))) && decide (IntKind.wrap .i64 (b + (1 : Int)) < nI (List.length a1)))
 ((go k spec_IsSibling [(.agg [(.int .i64 (Prod.fst (List.getD a1 (Int.toNat b) zz3))), (.int .i64 (Prod.fst (Prod.snd (List.getD a1 (Int.toNat b) zz3)))), (.int .i64 (Prod.snd (Prod.snd (List.getD a1 (Int.toNat b) zz3))))]), (.agg [(.int .i64 (Prod.fst (List.getD a1 (Int.toNat (IntKind.wrap .i64 (b + (1 : Int)))) zz3))), (.int .i64 (Prod.fst (Prod.snd (List.getD a1 (Int.toNat (IntKind.wrap .i64 (b + (1 : Int)))) zz3)))), (.int .i64 (Prod.snd (Prod.snd (List.getD a1 (Int.toNat (IntKind.wrap .i64 (b + (1 : Int)))) zz3))))])]).bind fun r0 =>
 cond (!bit (nth r0 0))
 (some [(.bool (false))])
 (cond (decide (b = (0 : Int)))
 (cond (decide (nI (List.length a1) ≤ IntKind.wrap .i64 (b + (2 : Int))))
 (some [(.bool (true))])
 (cond (decide ((0 : Int) ≤ IntKind.wrap .i64 (b + (2 : Int))) && decide (IntKind.wrap .i64 (b + (2 : Int)) < nI (List.length a1)))
 (some [(.bool (decide (Prod.fst (Prod.snd (List.getD a1 (Int.toNat (IntKind.wrap .i64 (b + (2 : Int)))) zz3)) ≤ Prod.fst (Prod.snd (List.getD a1 (Int.toNat b) zz3)))))])
 (none)))
 (cond (decide ((0 : Int) ≤ IntKind.wrap .i64 (b - (1 : Int))) && decide (IntKind.wrap .i64 (b - (1 : Int)) < nI (List.length a1)))
 (cond (decide (Prod.fst (Prod.snd (List.getD a1 (Int.toNat (IntKind.wrap .i64 (b - (1 : Int)))) zz3)) ≤ Prod.fst (Prod.snd (List.getD a1 (Int.toNat b) zz3))))
 (cond (decide (nI (List.length a1) ≤ IntKind.wrap .i64 (b + (2 : Int))))
 (some [(.bool (true))])
 (cond (decide ((0 : Int) ≤ IntKind.wrap .i64 (b + (2 : Int))) && decide (IntKind.wrap .i64 (b + (2 : Int)) < nI (List.length a1)))
 (some [(.bool (decide (Prod.fst (Prod.snd (List.getD a1 (Int.toNat (IntKind.wrap .i64 (b + (2 : Int)))) zz3)) ≤ Prod.fst (Prod.snd (List.getD a1 (Int.toNat b) zz3)))))])
 (none)))
 (some [(.bool (false))]))
 (none))))
 (none))
 (none))
 (none) := by kernel_rfl
theorem qiw (k : Nat) (a0 : Int) (a1z : Bool) (a1 : List (Int × Int × Int)) (b : Int) : go (k + 1) impl_Mesh_mayCoarsen [(.agg [(.int .i64 (a0)), (.arr false (a1z) (.r3 (a1)))]), (.int .i64 (b))] =
 (go k impl_Mesh_has [(.agg [(.int .i64 (a0)), (.arr false (a1z) (.r3 (a1)))]), (.int .i64 (b))]).bind fun r0 =>
 cond (!bit (nth r0 0))
 (some [(.bool (false))])
 ((go k impl_Mesh_has [(.agg [(.int .i64 (a0)), (.arr false (a1z) (.r3 (a1)))]), (.int .i64 (IntKind.wrap .i64 (b + (1 : Int))))]).bind fun r1 =>
 cond (!bit (nth r1 0))
 (some [(.bool (false))])
 (cond (decide ((0 : Int) ≤ b) && decide (b < nI (List.length a1)))
 (cond (decide ((0 : Int) ≤ IntKind.wrap .i64 (b + (1 : Int))) && decide (IntKind.wrap .i64 (b + (1 : Int)) < nI (List.length a1)))
 ((go k impl_IsSibling [(.agg [(.int .i64 (Prod.fst (List.getD a1 (Int.toNat b) zz3))), (.int .i64 (Prod.fst (Prod.snd (List.getD a1 (Int.toNat b) zz3)))), (.int .i64 (Prod.snd (Prod.snd (List.getD a1 (Int.toNat b) zz3))))]), (.agg [(.int .i64 (Prod.fst (List.getD a1 (Int.toNat (IntKind.wrap .i64 (b + (1 : Int)))) zz3))), (.int .i64 (Prod.fst (Prod.snd (List.getD a1 (Int.toNat (IntKind.wrap .i64 (b + (1 : Int)))) zz3)))), (.int .i64 (Prod.snd (Prod.snd (List.getD a1 (Int.toNat (IntKind.wrap .i64 (b + (1 : Int)))) zz3))))])]).bind fun r2 =>
 cond (!bit (nth r2 0))
 (some [(.bool (false))])
 (cond (decide ((0 : Int) ≤ b) && decide (b < nI (List.length a1)))
 ((go k impl_Mesh_has [(.agg [(.int .i64 (a0)), (.arr false (a1z) (.r3 (a1)))]), (.int .i64 (IntKind.wrap .i64 (b - (1 : Int))))]).bind fun r3 =>
 cond (bit (nth r3 0))
 (cond (decide ((0 : Int) ≤ IntKind.wrap .i64 (b - (1 : Int))) && decide (IntKind.wrap .i64 (b - (1 : Int)) < nI (List.length a1)))
 (cond (!decide (Prod.fst (Prod.snd (List.getD a1 (Int.toNat b) zz3)) < Prod.fst (Prod.snd (List.getD a1 (Int.toNat (IntKind.wrap .i64 (b - (1 : Int)))) zz3))))
 ((go k impl_Mesh_has [(.agg [(.int .i64 (a0)), (.arr false (a1z) (.r3 (a1)))]), (.int .i64 (IntKind.wrap .i64 (b + (2 : Int))))]).bind fun r4 =>
 cond (bit (nth r4 0))
 (cond (decide ((0 : Int) ≤ IntKind.wrap .i64 (b + (2 : Int))) && decide (IntKind.wrap .i64 (b + (2 : Int)) < nI (List.length a1)))
 (some [(.bool (!decide (Prod.fst (Prod.snd (List.getD a1 (Int.toNat b) zz3)) < Prod.fst (Prod.snd (List.getD a1 (Int.toNat (IntKind.wrap .i64 (b + (2 : Int)))) zz3)))))])
 (none))
 (some [(.bool (!false))]))
 (some [(.bool (false))]))
 (none))
 ((go k impl_Mesh_has [(.agg [(.int .i64 (a0)), (.arr false (a1z) (.r3 (a1)))]), (.int .i64 (IntKind.wrap .i64 (b + (2 : Int))))]).bind fun r5 =>
 cond (bit (nth r5 0))
 (cond (decide ((0 : Int) ≤ IntKind.wrap .i64 (b + (2 : Int))) && decide (IntKind.wrap .i64 (b + (2 : Int)) < nI (List.length a1)))
 (some [(.bool (!decide (Prod.fst (Prod.snd (List.getD a1 (Int.toNat b) zz3)) < Prod.fst (Prod.snd (List.getD a1 (Int.toNat (IntKind.wrap .i64 (b + (2 : Int)))) zz3)))))])
 (none))
 (some [(.bool (!false))])))
 (none)))
 (none))
 (none))) := by kernel_rfl
theorem qiz (k : Nat) (a0 : Int) (a1z : Bool) (a1 : List (Int × Int × Int)) : go (k + 1) impl_Mesh_toRefine [(.agg [(.int .i64 (a0)), (.arr false (a1z) (.r3 (a1)))])] =
 (go k impl_Mesh_unbalanced [(.agg [(.int .i64 (a0)), (.arr false (a1z) (.r3 (a1)))])]).bind fun r0 =>
 cond (decide ((0 : Int) ≤ D.toInt (nth r0 0)))
 (cond (decide ((0 : Int) ≤ D.toInt (nth r0 0)) && decide (D.toInt (nth r0 0) < nI (List.length a1)))
 (cond (decide ((0 : Int) ≤ IntKind.wrap .i64 (D.toInt (nth r0 0) + (1 : Int))) && decide (IntKind.wrap .i64 (D.toInt (nth r0 0) + (1 : Int)) < nI (List.length a1)))
 (cond (decide (Prod.fst (Prod.snd (List.getD a1 (Int.toNat (IntKind.wrap .i64 (D.toInt (nth r0 0) + (1 : Int)))) zz3)) < Prod.fst (Prod.snd (List.getD a1 (Int.toNat (D.toInt (nth r0 0))) zz3))))
 (some [(.int .i64 (IntKind.wrap .i64 (D.toInt (nth r0 0) + (1 : Int))))])
 (some [(.int .i64 (D.toInt (nth r0 0)))]))
 (none))
 (none))
 (some [(.int .i64 (D.toInt (nth r0 0)))]) := by kernel_rfl

end Go.Proofs.YtoldpdhhfmlckaaGreat
end
section
namespace Go.Proofs.YtoldpdhhfmlckaaGreat
open Go.Ev
def qv8 (x0 : Int) (z1 : Bool) (l2 : List (Int × Int × Int)) (z3 : Bool) (l4 : List Int) (z5 : Bool) (l6 : List Int) (z7 : Bool) (l8 : List Int) (x9 : Int) : St := ⟨fill 18 [(0, (.ptr 4 (0) (0))), (2, (.int .i64 (x0)))], [(.ptr 4 (0) (0))], [(.arr true (z1) (.r3 (l2))), (.arr true (z3) (.ints .i64 (l4))), (.arr true (z5) (.ints .i64 (l6))), (.arr true (z7) (.ints .i64 (l8))), (.box true [(.int .i64 (x9)), (.sl 0 none), (.sl 1 none), (.sl 2 none), (.sl 3 none)])]⟩
theorem qjd (k : Nat) (a0 : Int) (a1z : Bool) (a1 : List (Int × Int × Int)) (a2z : Bool) (a2 : List Int) (a3z : Bool) (a3 : List Int) (a4z : Bool) (a4 : List Int) : go (k + 1) impl_State_balance [(.ptr true [(.int .i64 (a0)), (.arr true (a1z) (.r3 (a1))), (.arr true (a2z) (.ints .i64 (a2))), (.arr true (a3z) (.ints .i64 (a3))), (.arr true (a4z) (.ints .i64 (a4)))])] =
 (go k impl_Mesh_toRefine [(.agg [(.int .i64 (a0)), (.arr false (a1z) (.r3 (a1)))])]).bind fun r0 =>
 lp k impl_State_balance [(.ptr true [(.int .i64 (a0)), (.arr true (a1z) (.r3 (a1))), (.arr true (a2z) (.ints .i64 (a2))), (.arr true (a3z) (.ints .i64 (a3))), (.arr true (a4z) (.ints .i64 (a4)))])] [] 1 k (qv8 (D.toInt (nth r0 0)) a1z a1 a2z a2 a3z a3 a4z a4 a0) := by kernel_rfl
theorem qpg (k n : Nat) (fu : List (Nat × Nat)) (a0 : Int) (a1z : Bool) (a1 : List (Int × Int × Int)) (a2z : Bool) (a2 : List Int) (a3z : Bool) (a3 : List Int) (a4z : Bool) (a4 : List Int) (x0 : Int) (z1 : Bool) (l2 : List (Int × Int × Int)) (z3 : Bool) (l4 : List Int) (z5 : Bool) (l6 : List Int) (z7 : Bool) (l8 : List Int) (x9 : Int) : lp k impl_State_balance [(.ptr true [(.int .i64 (a0)), (.arr true (a1z) (.r3 (a1))), (.arr true (a2z) (.ints .i64 (a2))), (.arr true (a3z) (.ints .i64 (a3))), (.arr true (a4z) (.ints .i64 (a4)))])] fu 1 (n + 1) (qv8 x0 z1 l2 z3 l4 z5 l6 z7 l8 x9) =
 cond (decide ((0 : Int) ≤ x0))
 ((go k impl_State_refine [(.ptr true [(.int .i64 (x9)), (.arr true (z1) (.r3 (l2))), (.arr true (z3) (.ints .i64 (l4))), (.arr true (z5) (.ints .i64 (l6))), (.arr true (z7) (.ints .i64 (l8)))]), (.int .i64 (x0))]).bind fun r0 =>
 (go k impl_Mesh_toRefine [(.agg [(.int .i64 (D.toInt (D.cell 0 (nth r0 0)))), (.arr false (D.nil (D.cell 1 (nth r0 0))) (.r3 (D.r3 (D.cell 1 (nth r0 0)))))])]).bind fun r1 =>
 lp k impl_State_balance [(.ptr true [(.int .i64 (a0)), (.arr true (a1z) (.r3 (a1))), (.arr true (a2z) (.ints .i64 (a2))), (.arr true (a3z) (.ints .i64 (a3))), (.arr true (a4z) (.ints .i64 (a4)))])] fu 1 n (qv8 (D.toInt (nth r1 0)) (D.nil (D.cell 1 (nth r0 0))) (D.r3 (D.cell 1 (nth r0 0))) (D.nil (D.cell 2 (nth r0 0))) (D.ints (D.cell 2 (nth r0 0))) (D.nil (D.cell 3 (nth r0 0))) (D.ints (D.cell 3 (nth r0 0))) (D.nil (D.cell 4 (nth r0 0))) (D.ints (D.cell 4 (nth r0 0))) (D.toInt (D.cell 0 (nth r0 0)))))
 (some [(.ptr true [(.int .i64 (x9)), (.arr true (z1) (.r3 (l2))), (.arr true (z3) (.ints .i64 (l4))), (.arr true (z5) (.ints .i64 (l6))), (.arr true (z7) (.ints .i64 (l8)))])]) := by kernel_rfl
def qxi (x0 : Int) (z1 : Bool) (l2 : List (Int × Int × Int)) (z3 : Bool) (l4 : List Int) (z5 : Bool) (l6 : List Int) (z7 : Bool) (l8 : List Int) (x9 : Int) (z10 : Bool) (l11 : List (Int × Int × Int)) (z12 : Bool) (l13 : List Int) (z14 : Bool) (l15 : List Int) (z16 : Bool) (l17 : List Int) (x18 : Int) : St := ⟨fill 19 [(1, (.ptr 4 (0) (0))), (2, (.ptr 9 (0) (0))), (3, (.int .i64 (x0)))], [], [(.arr true (z1) (.r3 (l2))), (.arr true (z3) (.ints .i64 (l4))), (.arr true (z5) (.ints .i64 (l6))), (.arr true (z7) (.ints .i64 (l8))), (.box true [(.int .i64 (x9)), (.sl 0 none), (.sl 1 none), (.sl 2 none), (.sl 3 none)]), (.arr true (z10) (.r3 (l11))), (.arr true (z12) (.ints .i64 (l13))), (.arr true (z14) (.ints .i64 (l15))), (.arr true (z16) (.ints .i64 (l17))), (.box true [(.int .i64 (x18)), (.sl 5 none), (.sl 6 none), (.sl 7 none), (.sl 8 none)])]⟩
theorem qm5 (k : Nat) (a0 : Int) (a1z : Bool) (a1 : List (Int × Int × Int)) (a2z : Bool) (a2 : List Int) (a3z : Bool) (a3 : List Int) (a4z : Bool) (a4 : List Int) : go (k + 1) spec_l08Level [(.agg [(.int .i64 (a0)), (.arr true (a1z) (.r3 (a1))), (.arr true (a2z) (.ints .i64 (a2))), (.arr true (a3z) (.ints .i64 (a3))), (.arr true (a4z) (.ints .i64 (a4)))])] =
 (go k spec_l05First [(.agg [(.int .i64 (a0)), (.arr false (a1z) (.r3 (a1)))])]).bind fun r0 =>
 lp k spec_l08Level [] [] 2 k (qxi (D.toInt (nth r0 0)) a1z a1 a2z a2 a3z a3 a4z a4 a0 true ([]) true ([]) true ([]) true ([]) (0 : Int)) := by kernel_rfl
theorem qqq (k n : Nat) (fu : List (Nat × Nat)) (x0 : Int) (z1 : Bool) (l2 : List (Int × Int × Int)) (z3 : Bool) (l4 : List Int) (z5 : Bool) (l6 : List Int) (z7 : Bool) (l8 : List Int) (x9 : Int) (z10 : Bool) (l11 : List (Int × Int × Int)) (z12 : Bool) (l13 : List Int) (z14 : Bool) (l15 : List Int) (z16 : Bool) (l17 : List Int) (x18 : Int) : lp k spec_l08Level [] fu 2 (n + 1) (qxi x0 z1 l2 z3 l4 z5 l6 z7 l8 x9 z10 l11 z12 l13 z14 l15 z16 l17 x18) =
 cond (decide ((0 : Int) ≤ x0))
 ((go k spec_l05Coarser [(.agg [(.int .i64 (x9)), (.arr false (z1) (.r3 (l2)))]), (.int .i64 (x0))]).bind fun r0 =>
 (go k spec_l08Split [(.agg [(.int .i64 (x9)), (.arr false (z1) (.r3 (l2))), (.arr false (z3) (.ints .i64 (l4))), (.arr false (z5) (.ints .i64 (l6))), (.arr false (z7) (.ints .i64 (l8)))]), (.int .i64 (D.toInt (nth r0 0)))]).bind fun r1 =>
 (go k spec_l05First [(.agg [(.int .i64 (D.toInt (D.cell 0 (nth r1 0)))), (.arr false (D.nil (D.cell 1 (nth r1 0))) (.r3 (D.r3 (D.cell 1 (nth r1 0)))))])]).bind fun r2 =>
 lp k spec_l08Level [] fu 2 n (qxi (D.toInt (nth r2 0)) (D.nil (D.cell 1 (nth r1 0))) (D.r3 (D.cell 1 (nth r1 0))) (D.nil (D.cell 2 (nth r1 0))) (D.ints (D.cell 2 (nth r1 0))) (D.nil (D.cell 3 (nth r1 0))) (D.ints (D.cell 3 (nth r1 0))) (D.nil (D.cell 4 (nth r1 0))) (D.ints (D.cell 4 (nth r1 0))) (D.toInt (D.cell 0 (nth r1 0))) z10 l11 z12 l13 z14 l15 z16 l17 x18))
 (some [(.agg [(.int .i64 (x9)), (.arr true (z1) (.r3 (l2))), (.arr true (z3) (.ints .i64 (l4))), (.arr true (z5) (.ints .i64 (l6))), (.arr true (z7) (.ints .i64 (l8)))])]) := by kernel_rfl
def qxq (x0 : Int) (z1 : Bool) (l2 : List (Int × Int × Int)) (z3 : Bool) (l4 : List Int) (z5 : Bool) (l6 : List Int) (z7 : Bool) (l8 : List Int) (x9 : Int) (z10 : Bool) (l11 : List (Int × Int × Int)) (z12 : Bool) (l13 : List Int) (z14 : Bool) (l15 : List Int) (z16 : Bool) (l17 : List Int) (x18 : Int) (z19 : Bool) (l20 : List Int) (z21 : Bool) (l22 : List (Int × Int × Int)) (z23 : Bool) (l24 : List Int) (z25 : Bool) (l26 : List Int) (z27 : Bool) (l28 : List Int) (x29 : Int) : St := ⟨fill 93 [(3, (.ptr 4 (0) (0))), (6, (.ptr 9 (0) (0))), (7, (.sl 10 none)), (8, (.ptr 15 (0) (0))), (10, (.int .i64 (x0)))], [], [(.arr false (z1) (.r3 (l2))), (.arr false (z3) (.ints .i64 (l4))), (.arr false (z5) (.ints .i64 (l6))), (.arr false (z7) (.ints .i64 (l8))), (.box true [(.int .i64 (x9)), (.sl 0 none), (.sl 1 none), (.sl 2 none), (.sl 3 none)]), (.arr true (z10) (.r3 (l11))), (.arr true (z12) (.ints .i64 (l13))), (.arr true (z14) (.ints .i64 (l15))), (.arr true (z16) (.ints .i64 (l17))), (.box true [(.int .i64 (x18)), (.sl 5 none), (.sl 6 none), (.sl 7 none), (.sl 8 none)]), (.arr true (z19) (.ints .i64 (l20))), (.arr true (z21) (.r3 (l22))), (.arr true (z23) (.ints .i64 (l24))), (.arr true (z25) (.ints .i64 (l26))), (.arr true (z27) (.ints .i64 (l28))), (.box true [(.int .i64 (x29)), (.sl 11 none), (.sl 12 none), (.sl 13 none), (.sl 14 none)])]⟩
def qxr (x0 : Int) (z1 : Bool) (l2 : List (Int × Int × Int)) (z3 : Bool) (l4 : List Int) (z5 : Bool) (l6 : List Int) (z7 : Bool) (l8 : List Int) (x9 : Int) (z10 : Bool) (l11 : List (Int × Int × Int)) (z12 : Bool) (l13 : List Int) (z14 : Bool) (l15 : List Int) (z16 : Bool) (l17 : List Int) (x18 : Int) (z19 : Bool) (l20 : List Int) (z21 : Bool) (l22 : List (Int × Int × Int)) (z23 : Bool) (l24 : List Int) (z25 : Bool) (l26 : List Int) (z27 : Bool) (l28 : List Int) (x29 : Int) : St := ⟨fill 93 [(3, (.ptr 4 (0) (0))), (6, (.ptr 9 (0) (0))), (7, (.sl 10 none)), (8, (.ptr 15 (0) (0))), (9, (.int .i64 (x0)))], [], [(.arr false (z1) (.r3 (l2))), (.arr false (z3) (.ints .i64 (l4))), (.arr false (z5) (.ints .i64 (l6))), (.arr false (z7) (.ints .i64 (l8))), (.box true [(.int .i64 (x9)), (.sl 0 none), (.sl 1 none), (.sl 2 none), (.sl 3 none)]), (.arr true (z10) (.r3 (l11))), (.arr true (z12) (.ints .i64 (l13))), (.arr true (z14) (.ints .i64 (l15))), (.arr true (z16) (.ints .i64 (l17))), (.box true [(.int .i64 (x18)), (.sl 5 none), (.sl 6 none), (.sl 7 none), (.sl 8 none)]), (.arr true (z19) (.ints .i64 (l20))), (.arr true (z21) (.r3 (l22))), (.arr true (z23) (.ints .i64 (l24))), (.arr true (z25) (.ints .i64 (l26))), (.arr true (z27) (.ints .i64 (l28))), (.box true [(.int .i64 (x29)), (.sl 11 none), (.sl 12 none), (.sl 13 none), (.sl 14 none)])]⟩
theorem qnl (k : Nat) (a0 : Int) (a1z : Bool) (a1 : List (Int × Int × Int)) (a2z : Bool) (a2 : List Int) (a3z : Bool) (a3 : List Int) (a4z : Bool) (a4 : List Int) (b c : Int) : go (k + 1) spec_l17Adapt [(.agg [(.int .i64 (a0)), (.arr false (a1z) (.r3 (a1))), (.arr false (a2z) (.ints .i64 (a2))), (.arr false (a3z) (.ints .i64 (a3))), (.arr false (a4z) (.ints .i64 (a4)))]), (.int .i64 (b)), (.int .i64 (c))] =
 (go k spec_l16Wishes [(.agg [(.int .i64 (a0)), (.arr false (a1z) (.r3 (a1))), (.arr false (a2z) (.ints .i64 (a2))), (.arr false (a3z) (.ints .i64 (a3))), (.arr false (a4z) (.ints .i64 (a4)))]), (.int .i64 (b)), (.int .i64 (c))]).bind fun r0 =>
 (go k spec_l07Copy [(.agg [(.int .i64 (a0)), (.arr false (a1z) (.r3 (a1))), (.arr false (a2z) (.ints .i64 (a2))), (.arr false (a3z) (.ints .i64 (a3))), (.arr false (a4z) (.ints .i64 (a4)))])]).bind fun r1 =>
 lp k spec_l17Adapt [] [] 4 k (qxr (IntKind.wrap .i64 (nI (List.length (D.ints (nth r0 0))) - (1 : Int))) a1z a1 a2z a2 a3z a3 a4z a4 a0 true ([]) true ([]) true ([]) true ([]) (0 : Int) (D.nil (nth r0 0)) (D.ints (nth r0 0)) (D.nil (D.cell 1 (nth r1 0))) (D.r3 (D.cell 1 (nth r1 0))) (D.nil (D.cell 2 (nth r1 0))) (D.ints (D.cell 2 (nth r1 0))) (D.nil (D.cell 3 (nth r1 0))) (D.ints (D.cell 3 (nth r1 0))) (D.nil (D.cell 4 (nth r1 0))) (D.ints (D.cell 4 (nth r1 0))) (D.toInt (D.cell 0 (nth r1 0)))) := by kernel_rfl
theorem qqy (k n : Nat) (fu : List (Nat × Nat)) (x0 : Int) (z1 : Bool) (l2 : List (Int × Int × Int)) (z3 : Bool) (l4 : List Int) (z5 : Bool) (l6 : List Int) (z7 : Bool) (l8 : List Int) (x9 : Int) (z10 : Bool) (l11 : List (Int × Int × Int)) (z12 : Bool) (l13 : List Int) (z14 : Bool) (l15 : List Int) (z16 : Bool) (l17 : List Int) (x18 : Int) (z19 : Bool) (l20 : List Int) (z21 : Bool) (l22 : List (Int × Int × Int)) (z23 : Bool) (l24 : List Int) (z25 : Bool) (l26 : List Int) (z27 : Bool) (l28 : List Int) (x29 : Int) : lp k spec_l17Adapt [] fu 10 (n + 1) (qxq x0 z1 l2 z3 l4 z5 l6 z7 l8 x9 z10 l11 z12 l13 z14 l15 z16 l17 x18 z19 l20 z21 l22 z23 l24 z25 l26 z27 l28 x29) =
 cond (decide (IntKind.wrap .i64 (x0 + (1 : Int)) < nI (List.length l24)))
 (cond (decide ((0 : Int) ≤ x0) && decide (x0 < nI (List.length l22)))
 ((go k spec_LeafOf [(.agg [(.int .i64 (x9)), (.arr false (z1) (.r3 (l2)))]), (.agg [(.int .i64 (Prod.fst (List.getD l22 (Int.toNat x0) zz3))), (.int .i64 (Prod.fst (Prod.snd (List.getD l22 (Int.toNat x0) zz3)))), (.int .i64 (Prod.snd (Prod.snd (List.getD l22 (Int.toNat x0) zz3))))])]).bind fun r0 =>
 cond (decide ((0 : Int) ≤ IntKind.wrap .i64 (x0 + (1 : Int))) && decide (IntKind.wrap .i64 (x0 + (1 : Int)) < nI (List.length l22)))
 ((go k spec_LeafOf [(.agg [(.int .i64 (x9)), (.arr false (z1) (.r3 (l2)))]), (.agg [(.int .i64 (Prod.fst (List.getD l22 (Int.toNat (IntKind.wrap .i64 (x0 + (1 : Int)))) zz3))), (.int .i64 (Prod.fst (Prod.snd (List.getD l22 (Int.toNat (IntKind.wrap .i64 (x0 + (1 : Int)))) zz3)))), (.int .i64 (Prod.snd (Prod.snd (List.getD l22 (Int.toNat (IntKind.wrap .i64 (x0 + (1 : Int)))) zz3))))])]).bind fun r1 =>
 cond (decide ((0 : Int) ≤ D.toInt (nth r0 0)))
 (cond (decide ((0 : Int) ≤ D.toInt (nth r1 0)))
 (cond (decide ((0 : Int) ≤ D.toInt (nth r0 0)) && decide (D.toInt (nth r0 0) < nI (List.length l20)))
 (cond (decide (List.getD l20 (Int.toNat (D.toInt (nth r0 0))) (0 : Int) = (-1 : Int)))
 (cond (decide ((0 : Int) ≤ D.toInt (nth r1 0)) && decide (D.toInt (nth r1 0) < nI (List.length l20)))
 (cond (decide (List.getD l20 (Int.toNat (D.toInt (nth r1 0))) (0 : Int) = (-1 : Int)))
 ((go k spec_l06May [(.agg [(.int .i64 (x29)), (.arr false (z21) (.r3 (l22)))]), (.int .i64 (x0))]).bind fun r2 =>
 cond (bit (nth r2 0))
 ((go k spec_l08Merge [(.agg [(.int .i64 (x29)), (.arr false (z21) (.r3 (l22))), (.arr false (z23) (.ints .i64 (l24))), (.arr false (z25) (.ints .i64 (l26))), (.arr false (z27) (.ints .i64 (l28)))]), (.int .i64 (x0))]).bind fun r3 =>
 lp k spec_l17Adapt [] fu 10 n (qxq (IntKind.wrap .i64 (x0 + (1 : Int))) z1 l2 z3 l4 z5 l6 z7 l8 x9 z10 l11 z12 l13 z14 l15 z16 l17 x18 z19 l20 (D.nil (D.cell 1 (nth r3 0))) (D.r3 (D.cell 1 (nth r3 0))) (D.nil (D.cell 2 (nth r3 0))) (D.ints (D.cell 2 (nth r3 0))) (D.nil (D.cell 3 (nth r3 0))) (D.ints (D.cell 3 (nth r3 0))) (D.nil (D.cell 4 (nth r3 0))) (D.ints (D.cell 4 (nth r3 0))) (D.toInt (D.cell 0 (nth r3 0)))))
 (lp k spec_l17Adapt [] fu 10 n (qxq (IntKind.wrap .i64 (x0 + (1 : Int))) z1 l2 z3 l4 z5 l6 z7 l8 x9 z10 l11 z12 l13 z14 l15 z16 l17 x18 z19 l20 z21 l22 z23 l24 z25 l26 z27 l28 x29)))
 (lp k spec_l17Adapt [] fu 10 n (qxq (IntKind.wrap .i64 (x0 + (1 : Int))) z1 l2 z3 l4 z5 l6 z7 l8 x9 z10 l11 z12 l13 z14 l15 z16 l17 x18 z19 l20 z21 l22 z23 l24 z25 l26 z27 l28 x29)))
 (none))
 (lp k spec_l17Adapt [] fu 10 n (qxq (IntKind.wrap .i64 (x0 + (1 : Int))) z1 l2 z3 l4 z5 l6 z7 l8 x9 z10 l11 z12 l13 z14 l15 z16 l17 x18 z19 l20 z21 l22 z23 l24 z25 l26 z27 l28 x29)))
 (none))
 (lp k spec_l17Adapt [] fu 10 n (qxq (IntKind.wrap .i64 (x0 + (1 : Int))) z1 l2 z3 l4 z5 l6 z7 l8 x9 z10 l11 z12 l13 z14 l15 z16 l17 x18 z19 l20 z21 l22 z23 l24 z25 l26 z27 l28 x29)))
 (lp k spec_l17Adapt [] fu 10 n (qxq (IntKind.wrap .i64 (x0 + (1 : Int))) z1 l2 z3 l4 z5 l6 z7 l8 x9 z10 l11 z12 l13 z14 l15 z16 l17 x18 z19 l20 z21 l22 z23 l24 z25 l26 z27 l28 x29)))
 (none))
 (none))
 (some [(.agg [(.int .i64 (x29)), (.arr true (z21) (.r3 (l22))), (.arr true (z23) (.ints .i64 (l24))), (.arr true (z25) (.ints .i64 (l26))), (.arr true (z27) (.ints .i64 (l28)))])]) := by kernel_rfl
theorem qqz (k n : Nat) (fu : List (Nat × Nat)) (x0 : Int) (z1 : Bool) (l2 : List (Int × Int × Int)) (z3 : Bool) (l4 : List Int) (z5 : Bool) (l6 : List Int) (z7 : Bool) (l8 : List Int) (x9 : Int) (z10 : Bool) (l11 : List (Int × Int × Int)) (z12 : Bool) (l13 : List Int) (z14 : Bool) (l15 : List Int) (z16 : Bool) (l17 : List Int) (x18 : Int) (z19 : Bool) (l20 : List Int) (z21 : Bool) (l22 : List (Int × Int × Int)) (z23 : Bool) (l24 : List Int) (z25 : Bool) (l26 : List Int) (z27 : Bool) (l28 : List Int) (x29 : Int) : lp k spec_l17Adapt [] fu 4 (n + 1) (qxr x0 z1 l2 z3 l4 z5 l6 z7 l8 x9 z10 l11 z12 l13 z14 l15 z16 l17 x18 z19 l20 z21 l22 z23 l24 z25 l26 z27 l28 x29) =
 cond (decide ((0 : Int) ≤ x0))
 (cond (decide ((0 : Int) ≤ x0) && decide (x0 < nI (List.length l20)))
 (cond (decide (List.getD l20 (Int.toNat x0) (0 : Int) = (1 : Int)))
 ((go k spec_l08Split [(.agg [(.int .i64 (x29)), (.arr false (z21) (.r3 (l22))), (.arr false (z23) (.ints .i64 (l24))), (.arr false (z25) (.ints .i64 (l26))), (.arr false (z27) (.ints .i64 (l28)))]), (.int .i64 (x0))]).bind fun r0 =>
 lp k spec_l17Adapt [] fu 4 n (qxr (IntKind.wrap .i64 (x0 - (1 : Int))) z1 l2 z3 l4 z5 l6 z7 l8 x9 z10 l11 z12 l13 z14 l15 z16 l17 x18 z19 l20 (D.nil (D.cell 1 (nth r0 0))) (D.r3 (D.cell 1 (nth r0 0))) (D.nil (D.cell 2 (nth r0 0))) (D.ints (D.cell 2 (nth r0 0))) (D.nil (D.cell 3 (nth r0 0))) (D.ints (D.cell 3 (nth r0 0))) (D.nil (D.cell 4 (nth r0 0))) (D.ints (D.cell 4 (nth r0 0))) (D.toInt (D.cell 0 (nth r0 0)))))
 (lp k spec_l17Adapt [] fu 4 n (qxr (IntKind.wrap .i64 (x0 - (1 : Int))) z1 l2 z3 l4 z5 l6 z7 l8 x9 z10 l11 z12 l13 z14 l15 z16 l17 x18 z19 l20 z21 l22 z23 l24 z25 l26 z27 l28 x29)))
 (none))
 ((go k spec_l08Level [(.agg [(.int .i64 (x29)), (.arr true (z21) (.r3 (l22))), (.arr true (z23) (.ints .i64 (l24))), (.arr true (z25) (.ints .i64 (l26))), (.arr true (z27) (.ints .i64 (l28)))])]).bind fun r1 =>
 lp k spec_l17Adapt [] fu 10 k (qxq (0 : Int) z1 l2 z3 l4 z5 l6 z7 l8 x9 z10 l11 z12 l13 z14 l15 z16 l17 x18 z19 l20 (D.nil (D.cell 1 (nth r1 0))) (D.r3 (D.cell 1 (nth r1 0))) (D.nil (D.cell 2 (nth r1 0))) (D.ints (D.cell 2 (nth r1 0))) (D.nil (D.cell 3 (nth r1 0))) (D.ints (D.cell 3 (nth r1 0))) (D.nil (D.cell 4 (nth r1 0))) (D.ints (D.cell 4 (nth r1 0))) (D.toInt (D.cell 0 (nth r1 0))))) := by kernel_rfl
def qv6 (x0 : Int) (z1 : Bool) (l2 : List (Int × Int × Int)) (z3 : Bool) (l4 : List Int) (z5 : Bool) (l6 : List Int) (z7 : Bool) (l8 : List Int) (x9 : Int) (l10 : List (Int × Int × Int)) : St := ⟨fill 91 [(0, (.ptr 4 (0) (0))), (7, (.mp 5)), (9, (.int .i64 (x0)))], [(.ptr 4 (0) (0))], [(.arr true (z1) (.r3 (l2))), (.arr true (z3) (.ints .i64 (l4))), (.arr true (z5) (.ints .i64 (l6))), (.arr true (z7) (.ints .i64 (l8))), (.box true [(.int .i64 (x9)), (.sl 0 none), (.sl 1 none), (.sl 2 none), (.sl 3 none)]), (.mp (l10))]⟩
def qv7 (x0 : Int) (z1 : Bool) (l2 : List (Int × Int × Int)) (z3 : Bool) (l4 : List Int) (z5 : Bool) (l6 : List Int) (z7 : Bool) (l8 : List Int) (x9 : Int) (z10 : Bool) (l11 : List Int) (l12 : List (Int × Int × Int)) : St := ⟨fill 91 [(0, (.ptr 4 (0) (0))), (6, (.sl 5 none)), (7, (.mp 6)), (8, (.int .i64 (x0)))], [(.ptr 4 (0) (0))], [(.arr true (z1) (.r3 (l2))), (.arr true (z3) (.ints .i64 (l4))), (.arr true (z5) (.ints .i64 (l6))), (.arr true (z7) (.ints .i64 (l8))), (.box true [(.int .i64 (x9)), (.sl 0 none), (.sl 1 none), (.sl 2 none), (.sl 3 none)]), (.arr true (z10) (.ints .i64 (l11))), (.mp (l12))]⟩
theorem qjc (k : Nat) (a0 : Int) (a1z : Bool) (a1 : List (Int × Int × Int)) (a2z : Bool) (a2 : List Int) (a3z : Bool) (a3 : List Int) (a4z : Bool) (a4 : List Int) (b c : Int) : go (k + 1) impl_State_adapt [(.ptr true [(.int .i64 (a0)), (.arr true (a1z) (.r3 (a1))), (.arr true (a2z) (.ints .i64 (a2))), (.arr true (a3z) (.ints .i64 (a3))), (.arr true (a4z) (.ints .i64 (a4)))]), (.int .i64 (b)), (.int .i64 (c))] =
 (go k impl_Wishes [(.agg [(.int .i64 (a0)), (.arr false (a1z) (.r3 (a1))), (.arr false (a2z) (.ints .i64 (a2))), (.arr false (a3z) (.ints .i64 (a3))), (.arr false (a4z) (.ints .i64 (a4)))]), (.int .i64 (b)), (.int .i64 (c))]).bind fun r0 =>
 lp k impl_State_adapt [(.ptr true [(.int .i64 (a0)), (.arr true (a1z) (.r3 (a1))), (.arr true (a2z) (.ints .i64 (a2))), (.arr true (a3z) (.ints .i64 (a3))), (.arr true (a4z) (.ints .i64 (a4)))])] [] 3 k (qv7 (IntKind.wrap .i64 (nI (List.length (D.ints (nth r0 0))) - (1 : Int))) a1z a1 a2z a2 a3z a3 a4z a4 a0 (D.nil (nth r0 0)) (D.ints (nth r0 0)) ([])) := by kernel_rfl
theorem qpe (k n : Nat) (fu : List (Nat × Nat)) (a0 : Int) (a1z : Bool) (a1 : List (Int × Int × Int)) (a2z : Bool) (a2 : List Int) (a3z : Bool) (a3 : List Int) (a4z : Bool) (a4 : List Int) (x0 : Int) (z1 : Bool) (l2 : List (Int × Int × Int)) (z3 : Bool) (l4 : List Int) (z5 : Bool) (l6 : List Int) (z7 : Bool) (l8 : List Int) (x9 : Int) (l10 : List (Int × Int × Int)) : lp k impl_State_adapt [(.ptr true [(.int .i64 (a0)), (.arr true (a1z) (.r3 (a1))), (.arr true (a2z) (.ints .i64 (a2))), (.arr true (a3z) (.ints .i64 (a3))), (.arr true (a4z) (.ints .i64 (a4)))])] fu 12 (n + 1) (qv6 x0 z1 l2 z3 l4 z5 l6 z7 l8 x9 l10) =
 cond (decide (IntKind.wrap .i64 (x0 + (1 : Int)) < nI (List.length l2)))
 (cond (decide ((0 : Int) ≤ x0) && decide (x0 < nI (List.length l2)))
 (cond (hasK l10 (Prod.fst (List.getD l2 (Int.toNat x0) zz3), Prod.fst (Prod.snd (List.getD l2 (Int.toNat x0) zz3)), Prod.snd (Prod.snd (List.getD l2 (Int.toNat x0) zz3))))
 (cond (decide ((0 : Int) ≤ IntKind.wrap .i64 (x0 + (1 : Int))) && decide (IntKind.wrap .i64 (x0 + (1 : Int)) < nI (List.length l2)))
 (cond (hasK l10 (Prod.fst (List.getD l2 (Int.toNat (IntKind.wrap .i64 (x0 + (1 : Int)))) zz3), Prod.fst (Prod.snd (List.getD l2 (Int.toNat (IntKind.wrap .i64 (x0 + (1 : Int)))) zz3)), Prod.snd (Prod.snd (List.getD l2 (Int.toNat (IntKind.wrap .i64 (x0 + (1 : Int)))) zz3))))
 ((go k impl_Mesh_mayCoarsen [(.agg [(.int .i64 (x9)), (.arr false (z1) (.r3 (l2)))]), (.int .i64 (x0))]).bind fun r0 =>
 cond (bit (nth r0 0))
 ((go k impl_State_coarsen [(.ptr true [(.int .i64 (x9)), (.arr true (z1) (.r3 (l2))), (.arr true (z3) (.ints .i64 (l4))), (.arr true (z5) (.ints .i64 (l6))), (.arr true (z7) (.ints .i64 (l8)))]), (.int .i64 (x0))]).bind fun r1 =>
 lp k impl_State_adapt [(.ptr true [(.int .i64 (a0)), (.arr true (a1z) (.r3 (a1))), (.arr true (a2z) (.ints .i64 (a2))), (.arr true (a3z) (.ints .i64 (a3))), (.arr true (a4z) (.ints .i64 (a4)))])] fu 12 n (qv6 (IntKind.wrap .i64 (x0 + (1 : Int))) (D.nil (D.cell 1 (nth r1 0))) (D.r3 (D.cell 1 (nth r1 0))) (D.nil (D.cell 2 (nth r1 0))) (D.ints (D.cell 2 (nth r1 0))) (D.nil (D.cell 3 (nth r1 0))) (D.ints (D.cell 3 (nth r1 0))) (D.nil (D.cell 4 (nth r1 0))) (D.ints (D.cell 4 (nth r1 0))) (D.toInt (D.cell 0 (nth r1 0))) l10))
 (lp k impl_State_adapt [(.ptr true [(.int .i64 (a0)), (.arr true (a1z) (.r3 (a1))), (.arr true (a2z) (.ints .i64 (a2))), (.arr true (a3z) (.ints .i64 (a3))), (.arr true (a4z) (.ints .i64 (a4)))])] fu 12 n (qv6 (IntKind.wrap .i64 (x0 + (1 : Int))) z1 l2 z3 l4 z5 l6 z7 l8 x9 l10)))
 (lp k impl_State_adapt [(.ptr true [(.int .i64 (a0)), (.arr true (a1z) (.r3 (a1))), (.arr true (a2z) (.ints .i64 (a2))), (.arr true (a3z) (.ints .i64 (a3))), (.arr true (a4z) (.ints .i64 (a4)))])] fu 12 n (qv6 (IntKind.wrap .i64 (x0 + (1 : Int))) z1 l2 z3 l4 z5 l6 z7 l8 x9 l10)))
 (none))
 (lp k impl_State_adapt [(.ptr true [(.int .i64 (a0)), (.arr true (a1z) (.r3 (a1))), (.arr true (a2z) (.ints .i64 (a2))), (.arr true (a3z) (.ints .i64 (a3))), (.arr true (a4z) (.ints .i64 (a4)))])] fu 12 n (qv6 (IntKind.wrap .i64 (x0 + (1 : Int))) z1 l2 z3 l4 z5 l6 z7 l8 x9 l10)))
 (none))
 (some [(.ptr true [(.int .i64 (x9)), (.arr true (z1) (.r3 (l2))), (.arr true (z3) (.ints .i64 (l4))), (.arr true (z5) (.ints .i64 (l6))), (.arr true (z7) (.ints .i64 (l8)))])]) := by kernel_rfl
theorem qpf (k n : Nat) (fu : List (Nat × Nat)) (a0 : Int) (a1z : Bool) (a1 : List (Int × Int × Int)) (a2z : Bool) (a2 : List Int) (a3z : Bool) (a3 : List Int) (a4z : Bool) (a4 : List Int) (x0 : Int) (z1 : Bool) (l2 : List (Int × Int × Int)) (z3 : Bool) (l4 : List Int) (z5 : Bool) (l6 : List Int) (z7 : Bool) (l8 : List Int) (x9 : Int) (z10 : Bool) (l11 : List Int) (l12 : List (Int × Int × Int)) : lp k impl_State_adapt [(.ptr true [(.int .i64 (a0)), (.arr true (a1z) (.r3 (a1))), (.arr true (a2z) (.ints .i64 (a2))), (.arr true (a3z) (.ints .i64 (a3))), (.arr true (a4z) (.ints .i64 (a4)))])] fu 3 (n + 1) (qv7 x0 z1 l2 z3 l4 z5 l6 z7 l8 x9 z10 l11 l12) =
 cond (decide ((0 : Int) ≤ x0))
 (cond (decide ((0 : Int) ≤ x0) && decide (x0 < nI (List.length l11)))
 (cond (decide (List.getD l11 (Int.toNat x0) (0 : Int) = (1 : Int)))
 ((go k impl_State_refine [(.ptr true [(.int .i64 (x9)), (.arr true (z1) (.r3 (l2))), (.arr true (z3) (.ints .i64 (l4))), (.arr true (z5) (.ints .i64 (l6))), (.arr true (z7) (.ints .i64 (l8)))]), (.int .i64 (x0))]).bind fun r0 =>
 lp k impl_State_adapt [(.ptr true [(.int .i64 (a0)), (.arr true (a1z) (.r3 (a1))), (.arr true (a2z) (.ints .i64 (a2))), (.arr true (a3z) (.ints .i64 (a3))), (.arr true (a4z) (.ints .i64 (a4)))])] fu 3 n (qv7 (IntKind.wrap .i64 (x0 - (1 : Int))) (D.nil (D.cell 1 (nth r0 0))) (D.r3 (D.cell 1 (nth r0 0))) (D.nil (D.cell 2 (nth r0 0))) (D.ints (D.cell 2 (nth r0 0))) (D.nil (D.cell 3 (nth r0 0))) (D.ints (D.cell 3 (nth r0 0))) (D.nil (D.cell 4 (nth r0 0))) (D.ints (D.cell 4 (nth r0 0))) (D.toInt (D.cell 0 (nth r0 0))) z10 l11 l12))
 (cond (decide (List.getD l11 (Int.toNat x0) (0 : Int) = (-1 : Int)))
 (cond (decide ((0 : Int) ≤ x0) && decide (x0 < nI (List.length l2)))
 (lp k impl_State_adapt [(.ptr true [(.int .i64 (a0)), (.arr true (a1z) (.r3 (a1))), (.arr true (a2z) (.ints .i64 (a2))), (.arr true (a3z) (.ints .i64 (a3))), (.arr true (a4z) (.ints .i64 (a4)))])] fu 3 n (qv7 (IntKind.wrap .i64 (x0 - (1 : Int))) z1 l2 z3 l4 z5 l6 z7 l8 x9 z10 l11 (l12 ++ [(Prod.fst (List.getD l2 (Int.toNat x0) zz3), Prod.fst (Prod.snd (List.getD l2 (Int.toNat x0) zz3)), Prod.snd (Prod.snd (List.getD l2 (Int.toNat x0) zz3)))])))
 (none))
 (lp k impl_State_adapt [(.ptr true [(.int .i64 (a0)), (.arr true (a1z) (.r3 (a1))), (.arr true (a2z) (.ints .i64 (a2))), (.arr true (a3z) (.ints .i64 (a3))), (.arr true (a4z) (.ints .i64 (a4)))])] fu 3 n (qv7 (IntKind.wrap .i64 (x0 - (1 : Int))) z1 l2 z3 l4 z5 l6 z7 l8 x9 z10 l11 l12))))
 (none))
 ((go k impl_State_balance [(.ptr true [(.int .i64 (x9)), (.arr true (z1) (.r3 (l2))), (.arr true (z3) (.ints .i64 (l4))), (.arr true (z5) (.ints .i64 (l6))), (.arr true (z7) (.ints .i64 (l8)))])]).bind fun r1 =>
 lp k impl_State_adapt [(.ptr true [(.int .i64 (a0)), (.arr true (a1z) (.r3 (a1))), (.arr true (a2z) (.ints .i64 (a2))), (.arr true (a3z) (.ints .i64 (a3))), (.arr true (a4z) (.ints .i64 (a4)))])] fu 12 k (qv6 (0 : Int) (D.nil (D.cell 1 (nth r1 0))) (D.r3 (D.cell 1 (nth r1 0))) (D.nil (D.cell 2 (nth r1 0))) (D.ints (D.cell 2 (nth r1 0))) (D.nil (D.cell 3 (nth r1 0))) (D.ints (D.cell 3 (nth r1 0))) (D.nil (D.cell 4 (nth r1 0))) (D.ints (D.cell 4 (nth r1 0))) (D.toInt (D.cell 0 (nth r1 0))) l12)) := by kernel_rfl
def qxp (x0 x1 x2 : Int) (z3 : Bool) (l4 : List (Int × Int × Int)) (z5 : Bool) (l6 : List Int) (z7 : Bool) (l8 : List Int) (z9 : Bool) (l10 : List Int) (x11 : Int) (z12 : Bool) (l13 : List Int) : St := ⟨fill 53 [(1, (.int .i64 (x0))), (2, (.int .i64 (x1))), (3, (.ptr 4 (0) (0))), (7, (.sl 5 none)), (8, (.int .i64 (x2)))], [], [(.arr false (z3) (.r3 (l4))), (.arr false (z5) (.ints .i64 (l6))), (.arr false (z7) (.ints .i64 (l8))), (.arr false (z9) (.ints .i64 (l10))), (.box true [(.int .i64 (x11)), (.sl 0 none), (.sl 1 none), (.sl 2 none), (.sl 3 none)]), (.arr true (z12) (.ints .i64 (l13)))]⟩
theorem qnk (k : Nat) (a0 : Int) (a1z : Bool) (a1 : List (Int × Int × Int)) (a2z : Bool) (a2 : List Int) (a3z : Bool) (a3 : List Int) (a4z : Bool) (a4 : List Int) (b c : Int) : go (k + 1) spec_l16Wishes [(.agg [(.int .i64 (a0)), (.arr false (a1z) (.r3 (a1))), (.arr false (a2z) (.ints .i64 (a2))), (.arr false (a3z) (.ints .i64 (a3))), (.arr false (a4z) (.ints .i64 (a4)))]), (.int .i64 (b)), (.int .i64 (c))] =
 lp k spec_l16Wishes [] [] 3 k (qxp b c (0 : Int) a1z a1 a2z a2 a3z a3 a4z a4 a0 false ([])) := by kernel_rfl
theorem qqx (k n : Nat) (fu : List (Nat × Nat)) (x0 x1 x2 : Int) (z3 : Bool) (l4 : List (Int × Int × Int)) (z5 : Bool) (l6 : List Int) (z7 : Bool) (l8 : List Int) (z9 : Bool) (l10 : List Int) (x11 : Int) (z12 : Bool) (l13 : List Int) : lp k spec_l16Wishes [] fu 3 (n + 1) (qxp x0 x1 x2 z3 l4 z5 l6 z7 l8 z9 l10 x11 z12 l13) =
 cond (decide (x2 < nI (List.length l6)))
 ((go k spec_l16Jump [(.agg [(.int .i64 (x11)), (.arr false (z3) (.r3 (l4))), (.arr false (z5) (.ints .i64 (l6))), (.arr false (z7) (.ints .i64 (l8))), (.arr false (z9) (.ints .i64 (l10)))]), (.int .i64 (x2))]).bind fun r0 =>
 cond (decide (x0 < D.toInt (nth r0 0)))
 (cond (decide ((0 : Int) ≤ x2) && decide (x2 < nI (List.length l4)))
 (cond (decide (Prod.fst (Prod.snd (List.getD l4 (Int.toNat x2) zz3)) < (4 : Int)))
 (cond (decide (List.length (l13 ++ [(1 : Int)]) ≤ bigLen))
 (lp k spec_l16Wishes [] fu 3 n (qxp x0 x1 (IntKind.wrap .i64 (x2 + (1 : Int))) z3 l4 z5 l6 z7 l8 z9 l10 x11 (z12 && decide (List.length (l13 ++ [(1 : Int)]) = 0)) (l13 ++ [(1 : Int)])))
 (none))
 (cond (decide (D.toInt (nth r0 0) < x1))
 (cond (decide ((0 : Int) ≤ x2) && decide (x2 < nI (List.length l4)))
 (cond (decide ((0 : Int) < Prod.fst (Prod.snd (List.getD l4 (Int.toNat x2) zz3))))
 (cond (decide (List.length (l13 ++ [(-1 : Int)]) ≤ bigLen))
 (lp k spec_l16Wishes [] fu 3 n (qxp x0 x1 (IntKind.wrap .i64 (x2 + (1 : Int))) z3 l4 z5 l6 z7 l8 z9 l10 x11 (z12 && decide (List.length (l13 ++ [(-1 : Int)]) = 0)) (l13 ++ [(-1 : Int)])))
 (none))
 (cond (decide (List.length (l13 ++ [(0 : Int)]) ≤ bigLen))
 (lp k spec_l16Wishes [] fu 3 n (qxp x0 x1 (IntKind.wrap .i64 (x2 + (1 : Int))) z3 l4 z5 l6 z7 l8 z9 l10 x11 (z12 && decide (List.length (l13 ++ [(0 : Int)]) = 0)) (l13 ++ [(0 : Int)])))
 (none)))
 (none))
 (cond (decide (List.length (l13 ++ [(0 : Int)]) ≤ bigLen))
 (lp k spec_l16Wishes [] fu 3 n (qxp x0 x1 (IntKind.wrap .i64 (x2 + (1 : Int))) z3 l4 z5 l6 z7 l8 z9 l10 x11 (z12 && decide (List.length (l13 ++ [(0 : Int)]) = 0)) (l13 ++ [(0 : Int)])))
 (none))))
 (none))
 (cond (decide (D.toInt (nth r0 0) < x1))
 (cond (decide ((0 : Int) ≤ x2) && decide (x2 < nI (List.length l4)))
 (cond (decide ((0 : Int) < Prod.fst (Prod.snd (List.getD l4 (Int.toNat x2) zz3))))
 (cond (decide (List.length (l13 ++ [(-1 : Int)]) ≤ bigLen))
 (lp k spec_l16Wishes [] fu 3 n (qxp x0 x1 (IntKind.wrap .i64 (x2 + (1 : Int))) z3 l4 z5 l6 z7 l8 z9 l10 x11 (z12 && decide (List.length (l13 ++ [(-1 : Int)]) = 0)) (l13 ++ [(-1 : Int)])))
 (none))
 (cond (decide (List.length (l13 ++ [(0 : Int)]) ≤ bigLen))
 (lp k spec_l16Wishes [] fu 3 n (qxp x0 x1 (IntKind.wrap .i64 (x2 + (1 : Int))) z3 l4 z5 l6 z7 l8 z9 l10 x11 (z12 && decide (List.length (l13 ++ [(0 : Int)]) = 0)) (l13 ++ [(0 : Int)])))
 (none)))
 (none))
 (cond (decide (List.length (l13 ++ [(0 : Int)]) ≤ bigLen))
 (lp k spec_l16Wishes [] fu 3 n (qxp x0 x1 (IntKind.wrap .i64 (x2 + (1 : Int))) z3 l4 z5 l6 z7 l8 z9 l10 x11 (z12 && decide (List.length (l13 ++ [(0 : Int)]) = 0)) (l13 ++ [(0 : Int)])))
 (none))))
 (some [(.arr true (z12) (.ints .i64 (l13)))]) := by kernel_rfl
theorem qnj (k : Nat) (a0 : Int) (a1z : Bool) (a1 : List (Int × Int × Int)) (a2z : Bool) (a2 : List Int) (a3z : Bool) (a3 : List Int) (a4z : Bool) (a4 : List Int) (b : Int) : go (k + 1) spec_l16Jump [(.agg [(.int .i64 (a0)), (.arr false (a1z) (.r3 (a1))), (.arr false (a2z) (.ints .i64 (a2))), (.arr false (a3z) (.ints .i64 (a3))), (.arr false (a4z) (.ints .i64 (a4)))]), (.int .i64 (b))] =
 cond (decide ((0 : Int) < b))
 ((go k spec_l09Surface [(.agg [(.int .i64 (a0)), (.arr false (a1z) (.r3 (a1))), (.arr false (a2z) (.ints .i64 (a2))), (.arr false (a3z) (.ints .i64 (a3))), (.arr false (a4z) (.ints .i64 (a4)))]), (.int .i64 (b))]).bind fun r0 =>
 (go k spec_l09Surface [(.agg [(.int .i64 (a0)), (.arr false (a1z) (.r3 (a1))), (.arr false (a2z) (.ints .i64 (a2))), (.arr false (a3z) (.ints .i64 (a3))), (.arr false (a4z) (.ints .i64 (a4)))]), (.int .i64 (IntKind.wrap .i64 (b - (1 : Int))))]).bind fun r1 =>
 (go k spec_l09Gap [(.int .i64 (D.toInt (nth r0 0))), (.int .i64 (D.toInt (nth r1 0)))]).bind fun r2 =>
 cond (decide (IntKind.wrap .i64 (b + (1 : Int)) < nI (List.length a2)))
 ((go k spec_l09Surface [(.agg [(.int .i64 (a0)), (.arr false (a1z) (.r3 (a1))), (.arr false (a2z) (.ints .i64 (a2))), (.arr false (a3z) (.ints .i64 (a3))), (.arr false (a4z) (.ints .i64 (a4)))]), (.int .i64 (b))]).bind fun r3 =>
 (go k spec_l09Surface [(.agg [(.int .i64 (a0)), (.arr false (a1z) (.r3 (a1))), (.arr false (a2z) (.ints .i64 (a2))), (.arr false (a3z) (.ints .i64 (a3))), (.arr false (a4z) (.ints .i64 (a4)))]), (.int .i64 (IntKind.wrap .i64 (b + (1 : Int))))]).bind fun r4 =>
 (go k spec_l09Gap [(.int .i64 (D.toInt (nth r3 0))), (.int .i64 (D.toInt (nth r4 0)))]).bind fun r5 =>
 some [(.int .i64 (if D.toInt (nth r5 0) > D.toInt (nth r2 0) then D.toInt (nth r5 0) else D.toInt (nth r2 0)))])
 (some [(.int .i64 (D.toInt (nth r2 0)))]))
 (cond (decide (IntKind.wrap .i64 (b + (1 : Int)) < nI (List.length a2)))
 ((go k spec_l09Surface [(.agg [(.int .i64 (a0)), (.arr false (a1z) (.r3 (a1))), (.arr false (a2z) (.ints .i64 (a2))), (.arr false (a3z) (.ints .i64 (a3))), (.arr false (a4z) (.ints .i64 (a4)))]), (.int .i64 (b))]).bind fun r6 =>
 (go k spec_l09Surface [(.agg [(.int .i64 (a0)), (.arr false (a1z) (.r3 (a1))), (.arr false (a2z) (.ints .i64 (a2))), (.arr false (a3z) (.ints .i64 (a3))), (.arr false (a4z) (.ints .i64 (a4)))]), (.int .i64 (IntKind.wrap .i64 (b + (1 : Int))))]).bind fun r7 =>
 (go k spec_l09Gap [(.int .i64 (D.toInt (nth r6 0))), (.int .i64 (D.toInt (nth r7 0)))]).bind fun r8 =>
 some [(.int .i64 (if D.toInt (nth r8 0) > (0 : Int) then D.toInt (nth r8 0) else (0 : Int)))])
 (some [(.int .i64 (0 : Int))])) := by kernel_rfl
def qwb (x0 x1 x2 x3 : Int) (z4 : Bool) (l5 : List (Int × Int × Int)) (z6 : Bool) (l7 : List Int) (z8 : Bool) (l9 : List Int) (z10 : Bool) (l11 : List Int) (x12 : Int) (z13 : Bool) (l14 : List Int) : St := ⟨fill 29 [(1, (.int .i64 (x0))), (2, (.ptr 4 (0) (0))), (5, (.int .i64 (x1))), (11, (.sl 5 none)), (12, (.int .i64 (x2))), (13, (.int .i64 (x3)))], [], [(.arr false (z4) (.r3 (l5))), (.arr false (z6) (.ints .i64 (l7))), (.arr false (z8) (.ints .i64 (l9))), (.arr false (z10) (.ints .i64 (l11))), (.box true [(.int .i64 (x12)), (.sl 0 none), (.sl 1 none), (.sl 2 none), (.sl 3 none)]), (.arr true (z13) (.ints .i64 (l14)))]⟩
theorem qjk (k : Nat) (a0 : Int) (a1z : Bool) (a1 : List (Int × Int × Int)) (a2z : Bool) (a2 : List Int) (a3z : Bool) (a3 : List Int) (a4z : Bool) (a4 : List Int) (b : Int) : go (k + 1) impl_State_jump [(.agg [(.int .i64 (a0)), (.arr false (a1z) (.r3 (a1))), (.arr false (a2z) (.ints .i64 (a2))), (.arr false (a3z) (.ints .i64 (a3))), (.arr false (a4z) (.ints .i64 (a4)))]), (.int .i64 (b))] =
 (go k impl_Mesh_neighbours [(.agg [(.int .i64 (a0)), (.arr false (a1z) (.r3 (a1)))]), (.int .i64 (b))]).bind fun r0 =>
 lp k impl_State_jump [] [] 3 k (qwb b (0 : Int) (nI (List.length (D.ints (nth r0 0)))) (0 : Int) a1z a1 a2z a2 a3z a3 a4z a4 a0 (D.nil (nth r0 0)) (D.ints (nth r0 0))) := by kernel_rfl
theorem qpj (k n : Nat) (fu : List (Nat × Nat)) (x0 x1 x2 x3 : Int) (z4 : Bool) (l5 : List (Int × Int × Int)) (z6 : Bool) (l7 : List Int) (z8 : Bool) (l9 : List Int) (z10 : Bool) (l11 : List Int) (x12 : Int) (z13 : Bool) (l14 : List Int) : lp k impl_State_jump [] fu 3 (n + 1) (qwb x0 x1 x2 x3 z4 l5 z6 l7 z8 l9 z10 l11 x12 z13 l14) =
 cond (decide (x3 < x2))
 (cond (decide ((0 : Int) ≤ x3) && decide (x3 < nI (List.length l14)))
 ((go k impl_State_surface [(.agg [(.int .i64 (x12)), (.arr false (z4) (.r3 (l5))), (.arr false (z6) (.ints .i64 (l7))), (.arr false (z8) (.ints .i64 (l9))), (.arr false (z10) (.ints .i64 (l11)))]), (.int .i64 (x0))]).bind fun r0 =>
 (go k impl_State_surface [(.agg [(.int .i64 (x12)), (.arr false (z4) (.r3 (l5))), (.arr false (z6) (.ints .i64 (l7))), (.arr false (z8) (.ints .i64 (l9))), (.arr false (z10) (.ints .i64 (l11)))]), (.int .i64 (List.getD l14 (Int.toNat x3) (0 : Int)))]).bind fun r1 =>
 (go k impl_absolute [(.int .i64 (IntKind.wrap .i64 (D.toInt (nth r0 0) - D.toInt (nth r1 0))))]).bind fun r2 =>
 lp k impl_State_jump [] fu 3 n (qwb x0 (if D.toInt (nth r2 0) > x1 then D.toInt (nth r2 0) else x1) x2 (IntKind.wrap .i64 (x3 + (1 : Int))) z4 l5 z6 l7 z8 l9 z10 l11 x12 z13 l14))
 (none))
 (some [(.int .i64 (x1))]) := by kernel_rfl
def qv1 (x0 x1 : Int) (z2 : Bool) (l3 : List (Int × Int × Int)) (x4 : Int) (z5 : Bool) (l6 : List Int) (z7 : Bool) (l8 : List Int) : St := ⟨fill 28 [(2, (.ptr 1 (0) (0))), (5, (.sl 2 none)), (13, (.sl 3 none)), (14, (.int .i64 (x0))), (15, (.int .i64 (x1)))], [], [(.arr false (z2) (.r3 (l3))), (.box true [(.int .i64 (x4)), (.sl 0 none)]), (.arr true (z5) (.ints .i64 (l6))), (.arr true (z7) (.ints .i64 (l8)))]⟩
theorem qix (k : Nat) (a0 : Int) (a1z : Bool) (a1 : List (Int × Int × Int)) (b : Int) : go (k + 1) impl_Mesh_neighbours [(.agg [(.int .i64 (a0)), (.arr false (a1z) (.r3 (a1)))]), (.int .i64 (b))] =
 lp k impl_Mesh_neighbours [] [] 3 k (qv1 (nI (List.length [IntKind.wrap .i64 (b - (1 : Int)), IntKind.wrap .i64 (b + (1 : Int))])) (0 : Int) a1z a1 a0 false ([]) false ([IntKind.wrap .i64 (b - (1 : Int)), IntKind.wrap .i64 (b + (1 : Int))])) := by kernel_rfl
theorem qo9 (k n : Nat) (fu : List (Nat × Nat)) (x0 x1 : Int) (z2 : Bool) (l3 : List (Int × Int × Int)) (x4 : Int) (z5 : Bool) (l6 : List Int) (z7 : Bool) (l8 : List Int) : lp k impl_Mesh_neighbours [] fu 3 (n + 1) (qv1 x0 x1 z2 l3 x4 z5 l6 z7 l8) =
 cond (decide (x1 < x0))
 (cond (decide ((0 : Int) ≤ x1) && decide (x1 < nI (List.length l8)))
 ((go k impl_Mesh_has [(.agg [(.int .i64 (x4)), (.arr false (z2) (.r3 (l3)))]), (.int .i64 (List.getD l8 (Int.toNat x1) (0 : Int)))]).bind fun r0 =>
 cond (bit (nth r0 0))
 (cond (decide (List.length (l6 ++ [List.getD l8 (Int.toNat x1) (0 : Int)]) ≤ bigLen))
 (lp k impl_Mesh_neighbours [] fu 3 n (qv1 x0 (IntKind.wrap .i64 (x1 + (1 : Int))) z2 l3 x4 (z5 && decide (List.length (l6 ++ [List.getD l8 (Int.toNat x1) (0 : Int)]) = 0)) (l6 ++ [List.getD l8 (Int.toNat x1) (0 : Int)]) z7 l8))
 (none))
 (lp k impl_Mesh_neighbours [] fu 3 n (qv1 x0 (IntKind.wrap .i64 (x1 + (1 : Int))) z2 l3 x4 z5 l6 z7 l8)))
 (none))
 (some [(.arr true (z5) (.ints .i64 (l6)))]) := by kernel_rfl
def qwj (x0 x1 x2 x3 : Int) (z4 : Bool) (l5 : List (Int × Int × Int)) (z6 : Bool) (l7 : List Int) (z8 : Bool) (l9 : List Int) (z10 : Bool) (l11 : List Int) (x12 : Int) (z13 : Bool) (l14 : List Int) : St := ⟨fill 52 [(1, (.int .i64 (x0))), (2, (.int .i64 (x1))), (3, (.ptr 4 (0) (0))), (7, (.sl 5 none)), (18, (.sl 0 none)), (19, (.int .i64 (x2))), (20, (.int .i64 (x3)))], [], [(.arr false (z4) (.r3 (l5))), (.arr false (z6) (.ints .i64 (l7))), (.arr false (z8) (.ints .i64 (l9))), (.arr false (z10) (.ints .i64 (l11))), (.box true [(.int .i64 (x12)), (.sl 0 none), (.sl 1 none), (.sl 2 none), (.sl 3 none)]), (.arr true (z13) (.ints .i64 (l14)))]⟩
theorem qjz (k : Nat) (a0 : Int) (a1z : Bool) (a1 : List (Int × Int × Int)) (a2z : Bool) (a2 : List Int) (a3z : Bool) (a3 : List Int) (a4z : Bool) (a4 : List Int) (b c : Int) : go (k + 1) impl_Wishes [(.agg [(.int .i64 (a0)), (.arr false (a1z) (.r3 (a1))), (.arr false (a2z) (.ints .i64 (a2))), (.arr false (a3z) (.ints .i64 (a3))), (.arr false (a4z) (.ints .i64 (a4)))]), (.int .i64 (b)), (.int .i64 (c))] =
 (go k impl_StateOk [(.agg [(.int .i64 (a0)), (.arr false (a1z) (.r3 (a1))), (.arr false (a2z) (.ints .i64 (a2))), (.arr false (a3z) (.ints .i64 (a3))), (.arr false (a4z) (.ints .i64 (a4)))])]).bind fun r0 =>
 cond (!bit (nth r0 0))
 (some [(.arr true (true) (.ints .i64 ([])))])
 (lp k impl_Wishes [] [] 5 k (qwj b c (nI (List.length a1)) (0 : Int) a1z a1 a2z a2 a3z a3 a4z a4 a0 false ([]))) := by kernel_rfl
theorem qpr (k n : Nat) (fu : List (Nat × Nat)) (x0 x1 x2 x3 : Int) (z4 : Bool) (l5 : List (Int × Int × Int)) (z6 : Bool) (l7 : List Int) (z8 : Bool) (l9 : List Int) (z10 : Bool) (l11 : List Int) (x12 : Int) (z13 : Bool) (l14 : List Int) : lp k impl_Wishes [] fu 5 (n + 1) (qwj x0 x1 x2 x3 z4 l5 z6 l7 z8 l9 z10 l11 x12 z13 l14) =
 cond (decide (x3 < x2))
 (cond (decide ((0 : Int) ≤ x3) && decide (x3 < nI (List.length l5)))
 ((go k impl_State_jump [(.agg [(.int .i64 (x12)), (.arr false (z4) (.r3 (l5))), (.arr false (z6) (.ints .i64 (l7))), (.arr false (z8) (.ints .i64 (l9))), (.arr false (z10) (.ints .i64 (l11)))]), (.int .i64 (x3))]).bind fun r0 =>
 cond (decide (x0 < D.toInt (nth r0 0)))
 (cond (decide (Prod.fst (Prod.snd (List.getD l5 (Int.toNat x3) zz3)) < (4 : Int)))
 (cond (decide (List.length (l14 ++ [(1 : Int)]) ≤ bigLen))
 (lp k impl_Wishes [] fu 5 n (qwj x0 x1 x2 (IntKind.wrap .i64 (x3 + (1 : Int))) z4 l5 z6 l7 z8 l9 z10 l11 x12 (z13 && decide (List.length (l14 ++ [(1 : Int)]) = 0)) (l14 ++ [(1 : Int)])))
 (none))
 (cond (decide (D.toInt (nth r0 0) < x1))
 (cond (decide ((0 : Int) < Prod.fst (Prod.snd (List.getD l5 (Int.toNat x3) zz3))))
 (cond (decide (List.length (l14 ++ [(-1 : Int)]) ≤ bigLen))
 (lp k impl_Wishes [] fu 5 n (qwj x0 x1 x2 (IntKind.wrap .i64 (x3 + (1 : Int))) z4 l5 z6 l7 z8 l9 z10 l11 x12 (z13 && decide (List.length (l14 ++ [(-1 : Int)]) = 0)) (l14 ++ [(-1 : Int)])))
 (none))
 (cond (decide (List.length (l14 ++ [(0 : Int)]) ≤ bigLen))
 (lp k impl_Wishes [] fu 5 n (qwj x0 x1 x2 (IntKind.wrap .i64 (x3 + (1 : Int))) z4 l5 z6 l7 z8 l9 z10 l11 x12 (z13 && decide (List.length (l14 ++ [(0 : Int)]) = 0)) (l14 ++ [(0 : Int)])))
 (none)))
 (cond (decide (List.length (l14 ++ [(0 : Int)]) ≤ bigLen))
 (lp k impl_Wishes [] fu 5 n (qwj x0 x1 x2 (IntKind.wrap .i64 (x3 + (1 : Int))) z4 l5 z6 l7 z8 l9 z10 l11 x12 (z13 && decide (List.length (l14 ++ [(0 : Int)]) = 0)) (l14 ++ [(0 : Int)])))
 (none))))
 (cond (decide (D.toInt (nth r0 0) < x1))
 (cond (decide ((0 : Int) < Prod.fst (Prod.snd (List.getD l5 (Int.toNat x3) zz3))))
 (cond (decide (List.length (l14 ++ [(-1 : Int)]) ≤ bigLen))
 (lp k impl_Wishes [] fu 5 n (qwj x0 x1 x2 (IntKind.wrap .i64 (x3 + (1 : Int))) z4 l5 z6 l7 z8 l9 z10 l11 x12 (z13 && decide (List.length (l14 ++ [(-1 : Int)]) = 0)) (l14 ++ [(-1 : Int)])))
 (none))
 (cond (decide (List.length (l14 ++ [(0 : Int)]) ≤ bigLen))
 (lp k impl_Wishes [] fu 5 n (qwj x0 x1 x2 (IntKind.wrap .i64 (x3 + (1 : Int))) z4 l5 z6 l7 z8 l9 z10 l11 x12 (z13 && decide (List.length (l14 ++ [(0 : Int)]) = 0)) (l14 ++ [(0 : Int)])))
 (none)))
 (cond (decide (List.length (l14 ++ [(0 : Int)]) ≤ bigLen))
 (lp k impl_Wishes [] fu 5 n (qwj x0 x1 x2 (IntKind.wrap .i64 (x3 + (1 : Int))) z4 l5 z6 l7 z8 l9 z10 l11 x12 (z13 && decide (List.length (l14 ++ [(0 : Int)]) = 0)) (l14 ++ [(0 : Int)])))
 (none))))
 (none))
 (some [(.arr true (z13) (.ints .i64 (l14)))]) := by kernel_rfl
def qw8 (x0 : Int) (z1 : Bool) (l2 : List (Int × Int × Int)) (x3 x4 x5 x6 : Int) : St := ⟨fill 21 [(2, (.ptr 1 (0) (0))), (3, (.ptr 2 (0) (0))), (5, (.int .i64 (x0)))], [], [(.arr false (z1) (.r3 (l2))), (.box true [(.int .i64 (x3)), (.sl 0 none)]), (.box true [(.int .i64 (x4)), (.int .i64 (x5)), (.int .i64 (x6))])]⟩
theorem qme (k : Nat) (a0 : Int) (a1z : Bool) (a1 : List (Int × Int × Int)) (b0 b1 b2 : Int) : go (k + 1) spec_LeafOf [(.agg [(.int .i64 (a0)), (.arr false (a1z) (.r3 (a1)))]), (.agg [(.int .i64 (b0)), (.int .i64 (b1)), (.int .i64 (b2))])] =
 lp k spec_LeafOf [] [] 2 k (qw8 (0 : Int) a1z a1 a0 b0 b1 b2) := by kernel_rfl
theorem qqg (k n : Nat) (fu : List (Nat × Nat)) (x0 : Int) (z1 : Bool) (l2 : List (Int × Int × Int)) (x3 x4 x5 x6 : Int) : lp k spec_LeafOf [] fu 2 (n + 1) (qw8 x0 z1 l2 x3 x4 x5 x6) =
 cond (decide (x0 < nI (List.length l2)))
 (cond (decide ((0 : Int) ≤ x0) && decide (x0 < nI (List.length l2)))
 (cond (decide (Prod.fst (List.getD l2 (Int.toNat x0) zz3) = x4) && (decide (Prod.fst (Prod.snd (List.getD l2 (Int.toNat x0) zz3)) = x5) && (decide (Prod.snd (Prod.snd (List.getD l2 (Int.toNat x0) zz3)) = x6) && true)))
 (some [(.int .i64 (x0))])
 (lp k spec_LeafOf [] fu 2 n (qw8 (IntKind.wrap .i64 (x0 + (1 : Int))) z1 l2 x3 x4 x5 x6)))
 (none))
 (some [(.int .i64 ((-1 : Int)))]) := by kernel_rfl
end Go.Proofs.YtoldpdhhfmlckaaGreat
end
section
namespace Go.Proofs.YtoldpdhhfmlckaaGreat
open Go.Ev
abbrev S3 := List Cell × List Int × List Int
structure StU (r : Int) (s : S3) (b : List Int) : Prop where
  mesh : qtt r 0 s.1 = true
  ml : s.2.1.length = s.1.length
  tl : s.2.2.length = s.1.length
  bl : (b.length : Int) = r
  mt : qtk s.2.1 s.2.2 = true
  bed : qa0 b = true
  sum : isum s.2.1 ≤ 10000000
theorem StF.toU {r : Int} {l : List Cell} {m t b : List Int} (F : StF r l m t b) : StU r (l, m, t) b := ⟨F.mesh, F.ml, F.tl, F.bl, F.mt, F.bed, F.sum⟩
theorem StU.toF {r : Int} {s : S3} {b : List Int} (U : StU r s b) (h : unb s.1 < 0) : StF r s.1 s.2.1 s.2.2 b := ⟨U.mesh, h, U.ml, U.tl, U.bl, U.mt, U.bed, U.sum⟩
theorem StU.len {r : Int} {s : S3} {b : List Int} (U : StU r s b) : 1 ≤ s.1.length ∧ s.1.length ≤ 128 := qty U.mesh
theorem StU.rr {r : Int} {s : S3} {b : List Int} (U : StU r s b) : 1 ≤ r ∧ r ≤ 8 := ⟨(qtx _ _ _ U.mesh).1, (qtx _ _ _ U.mesh).2.1⟩
theorem StU.at {r : Int} {s : S3} {b : List Int} (U : StU r s b) (i : Nat) : 0 ≤ s.2.1.getD i 0 ∧ s.2.1.getD i 0 ≤ 10000000 ∧ 0 ≤ s.2.2.getD i 0 ∧ s.2.2.getD i 0 ≤ 1000 * s.2.1.getD i 0 := qtl _ _ (by rw [U.ml, U.tl]) U.mt i
theorem StU.id {r : Int} {s : S3} {b : List Int} (U : StU r s b) {i : Nat} (h : i < s.1.length) : idOk (s.1.getD i zz3).1 (s.1.getD i zz3).2.1 (s.1.getD i zz3).2.2 = true := ((qtx _ _ _ U.mesh).2.2.2.1 _ h).2.2
theorem qrk : ∀ (n : Nat) (m t : List Int), qtk m t = true → qtk (m.take n) (t.take n) = true
  | 0, m, t, h => by simp [qtk]
  | n + 1, [], t, h => by simp [qtk]
  | n + 1, x :: m, [], h => by simp [qtk]
  | n + 1, x :: m, y :: t, h => by
    simp only [List.take_succ_cons, qtk, Bool.and_eq_true] at h ⊢
    exact ⟨h.1, h.2.1, qrk n m t h.2.2⟩
theorem qrj : ∀ (n : Nat) (m t : List Int), qtk m t = true → qtk (m.drop n) (t.drop n) = true
  | 0, m, t, h => by simpa using h
  | n + 1, [], t, h => by simp [qtk]
  | n + 1, x :: m, [], h => by cases h' : List.drop n m <;> simp [qtk, h']
  | n + 1, x :: m, y :: t, h => by
    simp only [List.drop_succ_cons, qtk, Bool.and_eq_true] at h ⊢
    exact qrj n m t h.2.2
theorem qrh : ∀ (m t m' t' : List Int), m.length = t.length → qtk m t = true → qtk m' t' = true → qtk (m ++ m') (t ++ t') = true
  | [], [], m', t', _, _, h => h
  | [], _ :: _, _, _, h, _, _ => by simp at h
  | _ :: _, [], _, _, h, _, _ => by simp at h
  | x :: m, y :: t, m', t', hl, h, h' => by
    simp only [List.cons_append, qtk, Bool.and_eq_true] at h ⊢
    exact ⟨h.1, h.2.1, qrh m t m' t' (by simpa using hl) h.2.2 h'⟩
theorem qri {x y : Int} {m t : List Int} (h1 : 0 ≤ x ∧ x ≤ 10000000) (h2 : 0 ≤ y ∧ y ≤ 1000 * x) (h : qtk m t = true) : qtk (x :: m) (y :: t) = true := by
  simp only [qtk, Bool.and_eq_true, qoo]; exact ⟨h1, h2, h⟩
theorem qot {m : List Int} {i : Nat} (h : i < m.length) : isum (m.take i) + m.getD i 0 + isum (m.drop (i + 1)) = isum m := by
  have e := qhv h 0
  have := congrArg isum e
  rw [qos, isum] at this
  omega
abbrev hA (x : Int) : Int := x - x / 2
abbrev hB (x : Int) : Int := x / 2
theorem hAB {x : Int} (h : 0 ≤ x) : hA x + hB x = x ∧ 0 ≤ hB x ∧ hB x ≤ x ∧ 0 ≤ hA x ∧ hA x ≤ x := by unfold hA hB; omega
def rfM (m : List Int) (i : Nat) : List Int := m.take i ++ hA (m.getD i 0) :: hB (m.getD i 0) :: m.drop (i + 1)
abbrev shr (t m : Int) : Int := qx2 t (hA m) m
def rfT (t m : List Int) (i : Nat) : List Int := t.take i ++ shr (t.getD i 0) (m.getD i 0) :: (t.getD i 0 - shr (t.getD i 0) (m.getD i 0)) :: t.drop (i + 1)
def rfS (s : S3) (i : Nat) : S3 := (qyh s.1 i, rfM s.2.1 i, rfT s.2.2 s.2.1 i)
theorem qx9 {t m : Int} (hm : 0 ≤ m ∧ m ≤ 10000000) (ht : 0 ≤ t ∧ t ≤ 1000 * m) : (0 ≤ shr t m ∧ shr t m ≤ 1000 * hA m) ∧ 0 ≤ t - shr t m ∧ t - shr t m ≤ 1000 * hB m := by
  have q := hAB hm.1
  have p1 := (qx4 t (hA m) m).1
  have p2 := qx5 (t := t) (p := hA m) (m := m) ht.1 (by omega) ht.2
  by_cases h0 : m = 0
  · subst h0
    have : t = 0 := by omega
    subst this
    have p3 : shr 0 0 = 0 := by unfold shr; omega
    rw [p3] at *
    exact ⟨⟨by omega, by omega⟩, by omega, by omega⟩
  · have e : shr t m = (t * hA m) / m := by
      unfold shr qx2
      rw [show inR m 1 10000000 = true from qoo.2 (by omega), show inR (hA m) 0 m = true from qoo.2 (by omega), show inR t 0 (1000 * m) = true from qoo.2 ht]
      simp only [Bool.and_self, qhn]
      exact Int.tdiv_eq_ediv_of_nonneg (Int.mul_nonneg ht.1 (by omega))
    refine ⟨⟨p1, p2⟩, ?_, ?_⟩
    · have : (t * hA m) / m ≤ t := by
        apply Int.ediv_le_of_le_mul (by omega)
        exact Int.mul_le_mul_of_nonneg_left (by omega) ht.1
      omega
    · have hx : t * hB m ≤ 1000 * m * hB m := Int.mul_le_mul_of_nonneg_right ht.2 (by omega)
      have hs : t * hA m + t * hB m = t * m := by rw [← Int.mul_add, q.1]
      have h2 : (t - 1000 * hB m) * m ≤ t * hA m := by
        rw [Int.sub_mul, Int.mul_right_comm 1000 (hB m) m]
        rw [show 1000 * m * hB m = 1000 * m * hB m from rfl] at hx
        omega
      have : t - 1000 * hB m ≤ (t * hA m) / m := (Int.le_ediv_iff_mul_le (by omega)).2 h2
      omega
theorem qvm {m : List Int} {i : Nat} (h : i < m.length) : (rfM m i).length = m.length + 1 := by
  simp only [rfM, List.length_append, List.length_take, List.length_cons, List.length_drop]; omega
theorem qvo {t m : List Int} {i : Nat} (h : i < t.length) : (rfT t m i).length = t.length + 1 := by
  simp only [rfT, List.length_append, List.length_take, List.length_cons, List.length_drop]; omega
theorem qvn {m : List Int} {i : Nat} (h : i < m.length) (h0 : 0 ≤ m.getD i 0) : isum (rfM m i) = isum m := by
  have := qot h; have := hAB h0
  simp only [rfM, qos, isum]
  omega
theorem qvp {t m : List Int} {i : Nat} (h : i < t.length) : isum (rfT t m i) = isum t := by
  have := qot h
  simp only [rfT, qos, isum]
  omega
theorem rf_U {r : Int} {s : S3} {b : List Int} (U : StU r s b) {i : Nat} (hi : i < s.1.length) (hl : qq8 s.1 i < 4) : StU r (rfS s i) b := by
  have a := U.at i; have ml := U.ml; have tl := U.tl; have q := hAB a.1
  have sh := qx9 ⟨a.1, a.2.1⟩ ⟨a.2.2.1, a.2.2.2⟩
  refine ⟨qyk U.mesh hi hl, ?_, ?_, U.bl, ?_, U.bed, ?_⟩
  · show (rfM s.2.1 i).length = (qyh s.1 i).length
    rw [qvm (by omega), qyi hi]; omega
  · show (rfT s.2.2 s.2.1 i).length = (qyh s.1 i).length
    rw [qvo (by omega), qyi hi]; omega
  · exact qrh _ _ _ _ (by rw [List.length_take, List.length_take]; omega) (qrk i _ _ U.mt) (qri (by omega) sh.1 (qri (by omega) sh.2 (qrj _ _ _ U.mt)))
  · show isum (rfM s.2.1 i) ≤ _
    rw [qvn (by omega) a.1]; exact U.sum
def cmM (m : List Int) (i : Nat) : List Int := m.take i ++ (m.getD i 0 + m.getD (i + 1) 0) :: m.drop (i + 2)
def cmS (s : S3) (i : Nat) : S3 := (qtp s.1 i, cmM s.2.1 i, cmM s.2.2 i)
theorem qhg {m : List Int} {i : Nat} (h : i + 1 < m.length) : (cmM m i).length + 1 = m.length := by
  simp only [cmM, List.length_append, List.length_take, List.length_cons, List.length_drop]; omega
theorem qou {m : List Int} {i : Nat} (h : i + 1 < m.length) : isum (m.take i) + m.getD i 0 + m.getD (i + 1) 0 + isum (m.drop (i + 2)) = isum m := by
  have e := qot (show i < m.length by omega)
  rw [qh2 h 0, isum, show i + 1 + 1 = i + 2 from rfl] at e
  omega
theorem qhh {m : List Int} {i : Nat} (h : i + 1 < m.length) : isum (cmM m i) = isum m := by
  have := qou h
  simp only [cmM, qos, isum]
  omega
theorem qox {m : List Int} (h : ∀ x ∈ m, 0 ≤ x) : 0 ≤ isum m := by
  induction m with
  | nil => simp [isum]
  | cons x m ih => have := h x (by simp); have := ih fun y hy => h y (by simp [hy]); simp only [isum]; omega
theorem cm_U {r : Int} {s : S3} {b : List Int} (U : StU r s b) {i : Nat} (hi : i + 1 < s.1.length) (hs : sib (s.1.getD i zz3) (s.1.getD (i + 1) zz3) = true) : StU r (cmS s i) b := by
  have a := U.at i; have a' := U.at (i + 1); have ml := U.ml; have tl := U.tl
  have mem := qtm _ _ (by rw [ml, tl]) U.mt
  have s1 := qox (m := s.2.1.take i) fun x hx => (mem.1 x (List.mem_of_mem_take hx)).1
  have s2 := qox (m := s.2.1.drop (i + 2)) fun x hx => (mem.1 x (List.mem_of_mem_drop hx)).1
  have s3 := qou (m := s.2.1) (i := i) (by omega)
  have s4 := U.sum
  refine ⟨qtr U.mesh hi hs, ?_, ?_, U.bl, ?_, U.bed, ?_⟩
  · show (cmM s.2.1 i).length = (qtp s.1 i).length
    have h1 := qhg (m := s.2.1) (i := i) (by omega); have h2 := qtq hi; omega
  · show (cmM s.2.2 i).length = (qtp s.1 i).length
    have h1 := qhg (m := s.2.2) (i := i) (by omega); have h2 := qtq hi; omega
  · exact qrh _ _ _ _ (by rw [List.length_take, List.length_take]; omega) (qrk i _ _ U.mt) (qri (by omega) (by omega) (qrj _ _ _ U.mt))
  · show isum (cmM s.2.1 i) ≤ _
    rw [qhh (by omega)]; exact U.sum
def lvS : Nat → S3 → S3
  | 0, s => s
  | n + 1, s => if unb s.1 < 0 then s else lvS n (rfS s (qhi s.1 (unb s.1).toNat))
theorem qrf {r : Int} {b : List Int} : ∀ (n : Nat) (s : S3), StU r s b → 129 ≤ n + s.1.length → StU r (lvS n s) b ∧ unb (lvS n s).1 < 0
  | 0, s, U, hn => by have := U.len; omega
  | n + 1, s, U, hn => by
    unfold lvS
    by_cases g : unb s.1 < 0
    · rw [if_pos g]; exact ⟨U, g⟩
    · rw [if_neg g]
      obtain ⟨j, e, h1, h2⟩ := qzv (by omega : 0 ≤ unb s.1)
      have c := qhj U.mesh h1 h2
      rw [e, Int.toNat_natCast]
      exact qrf n _ (rf_U U c.1 c.2) (by show 129 ≤ n + (qyh s.1 _).length; rw [qyi c.1]; omega)
def spS (w : List Int) : Nat → S3 → S3
  | 0, s => s
  | n + 1, s => spS w n (if w.getD n 0 = 1 then rfS s n else s)
def mayC (l : List Cell) (i : Nat) : Bool := sib (l.getD i zz3) (l.getD (i + 1) zz3) && ((decide (i = 0) || decide (qq8 l (i - 1) ≤ qq8 l i)) && (decide (l.length ≤ i + 2) || decide (qq8 l (i + 2) ≤ qq8 l i)))
def mgS (P : Cell → Bool) : Nat → Nat → S3 → S3
  | 0, i, s => s
  | n + 1, i, s => if i + 1 < s.1.length then mgS P n (i + 1) (if (P (s.1.getD i zz3) && (P (s.1.getD (i + 1) zz3) && mayC s.1 i)) = true then cmS s i else s) else s
theorem qyj {l : List Cell} {i j : Nat} (hi : i < l.length) (h : j < i) : (qyh l i).getD j zz3 = l.getD j zz3 := by
  unfold qyh
  simp only [List.getD_eq_getElem?_getD]
  rw [List.getElem?_append_left (by rw [List.length_take]; omega), List.getElem?_take, if_pos h]
theorem qyf {r : Int} {b : List Int} (w : List Int) (l0 : List Cell) (hw : ∀ j, w.getD j 0 = 1 → qq8 l0 j < 4) : ∀ (n : Nat) (s : S3), StU r s b → n ≤ s.1.length → (∀ j, j < n → s.1.getD j zz3 = l0.getD j zz3) → StU r (spS w n s) b
  | 0, s, U, hn, he => U
  | n + 1, s, U, hn, he => by
    unfold spS
    by_cases g : w.getD n 0 = 1
    · rw [if_pos g]
      have hl : qq8 s.1 n < 4 := by have := hw n g; unfold qq8 at *; rw [he n (by omega)]; exact this
      exact qyf w l0 hw n _ (rf_U U (by omega) hl) (by show n ≤ (qyh s.1 n).length; rw [qyi (by omega)]; omega) fun j hj => by
        show (qyh s.1 n).getD j zz3 = _
        rw [qyj (by omega) hj]; exact he j (by omega)
    · rw [if_neg g]
      exact qyf w l0 hw n s U (by omega) fun j hj => he j (by omega)
theorem qt1 {r : Int} {b : List Int} (P : Cell → Bool) : ∀ (n i : Nat) (s : S3), StU r s b → StU r (mgS P n i s) b
  | 0, i, s, U => U
  | n + 1, i, s, U => by
    unfold mgS
    by_cases g : i + 1 < s.1.length
    · rw [if_pos g]
      by_cases h : (P (s.1.getD i zz3) && (P (s.1.getD (i + 1) zz3) && mayC s.1 i)) = true
      · rw [if_pos h]
        simp only [Bool.and_eq_true, mayC] at h
        exact qt1 P n (i + 1) _ (cm_U U g h.2.2.1)
      · rw [if_neg h]; exact qt1 P n (i + 1) s U
    · rw [if_neg g]; exact U
theorem qts {l : List Cell} {i : Nat} (hi : i + 1 < l.length) (hu : unb l < 0) (hm : mayC l i = true) (h1 : 1 ≤ qq8 l i) : unb (qtp l i) < 0 := by
  have ml := qtq hi
  simp only [mayC, Bool.and_eq_true, Bool.or_eq_true, decide_eq_true_eq, sib] at hm
  obtain ⟨⟨_, _, _, hlev, _⟩, hlo, hhi⟩ := hm
  rw [qzw] at hu ⊢
  have lv : ∀ j, qq8 (qtp l i) j = if j < i then qq8 l j else if j = i then qq8 l i - 1 else qq8 l (j + 1) := fun j => by
    unfold qtp qq8
    simp only [List.getD_eq_getElem?_getD]
    by_cases g : j < i
    · rw [if_pos g, List.getElem?_append_left (by rw [List.length_take]; omega), List.getElem?_take, if_pos g]
    · rw [if_neg g, List.getElem?_append_right (by rw [List.length_take]; omega), List.length_take, Nat.min_eq_left (by omega)]
      by_cases g2 : j = i
      · subst g2; rw [if_pos rfl, Nat.sub_self]; simp [par]
      · rw [if_neg g2, show j - i = (j - i - 1) + 1 by omega, List.getElem?_cons_succ, List.getElem?_drop]
        congr 4; omega
  intro j hj
  have hj' : j + 1 < l.length - 1 := by omega
  rw [lv, lv]
  have hu1 := fun q (hq : q + 1 < l.length) => hu q hq
  have hle : qq8 l i = qq8 l (i + 1) := hlev
  by_cases g : j + 1 < i
  · rw [if_pos (by omega), if_pos g]; exact hu j (by omega)
  by_cases g1 : j + 1 = i
  · rw [if_pos (by omega), if_neg (by omega), if_pos g1]
    have := hu j (by omega)
    rw [g1] at this
    rcases hlo with h | h
    · omega
    · rw [show i - 1 = j by omega] at h; omega
  by_cases g2 : j = i
  · subst g2
    rw [if_neg (by omega), if_pos rfl, if_neg (by omega), if_neg (by omega)]
    have := hu (j + 1) (by omega)
    rcases hhi with h | h
    · omega
    · rw [show j + 1 + 1 = j + 2 by omega] at *; omega
  · rw [if_neg (by omega), if_neg (by omega), if_neg (by omega), if_neg (by omega)]; exact hu (j + 1) (by omega)
theorem qya {a b : Cell} (h : sib a b = true) : 1 ≤ a.2.1 := by
  simp only [sib, Bool.and_eq_true, decide_eq_true_eq] at h
  obtain ⟨h1, h2, h3, h4, h5, h6⟩ := h
  rw [← h3, ← h4, h6] at h2
  exact (qun h1 h2 h5).1
theorem qt3 (P : Cell → Bool) : ∀ (n i : Nat) (s : S3), unb s.1 < 0 → unb (mgS P n i s).1 < 0
  | 0, i, s, U => U
  | n + 1, i, s, U => by
    unfold mgS
    by_cases g : i + 1 < s.1.length
    · rw [if_pos g]
      by_cases h : (P (s.1.getD i zz3) && (P (s.1.getD (i + 1) zz3) && mayC s.1 i)) = true
      · rw [if_pos h]
        simp only [Bool.and_eq_true] at h
        have h2 := h.2.2
        simp only [mayC, Bool.and_eq_true] at h2
        exact qt3 P n (i + 1) _ (qts g U h.2.2 (qya h2.1))
      · rw [if_neg h]; exact qt3 P n (i + 1) s U
    · rw [if_neg g]; exact U
end Go.Proofs.YtoldpdhhfmlckaaGreat
end
section
namespace Go.Proofs.YtoldpdhhfmlckaaGreat
open Go.Ev
set_option maxRecDepth 20000
theorem qzr (o : Bool) (d0 d1 d2 d3 : D) (l : List D) : (D.ptr o (d0 :: d1 :: d2 :: d3 :: l)).cell 3 = d3 := Eq.trans rfl rfl
theorem qzs (o : Bool) (d0 d1 d2 d3 d4 : D) (l : List D) : (D.ptr o (d0 :: d1 :: d2 :: d3 :: d4 :: l)).cell 4 = d4 := Eq.trans rfl rfl
theorem qfl (k : Nat) (hk : 2000000 ≤ k) (a : Int) (h : 0 ≤ a) (h' : a ≤ 1000000000) : go (k + 1) spec_SplitEven [(.int .i64 (a))] = some [.int .i64 (hA a), .int .i64 (hB a)] := by
  rw [qmp]
  have e : Int.tdiv a 2 = a / 2 := Int.tdiv_eq_ediv_of_nonneg h
  rw [e]
  simp (disch := omega) only [dF, q0f, qhl]
theorem qb6 (k : Nat) (hk : 2000000 ≤ k) (a : Int) (h : 0 ≤ a) (h' : a ≤ 1000000000) : go (k + 1) impl_SplitEven [(.int .i64 (a))] = some [.int .i64 (hA a), .int .i64 (hB a)] := by
  rw [qi9]
  have e : Int.tdiv a 2 = a / 2 := Int.tdiv_eq_ediv_of_nonneg h
  rw [e]
  simp (disch := omega) only [dF, q0f, qhl]
theorem qf6 (k : Nat) (hk : 2000000 ≤ k) (r : Int) (s : S3) (b : List Int) (U : StU r s b) (i : Nat) (hi : i < s.1.length) (hv : qq8 s.1 i < 4) :
    go (k + 5) spec_l08Split [.agg [.int .i64 (r), .arr false (false) (.r3 (s.1)), .arr false (false) (.ints .i64 (s.2.1)), .arr false (false) (.ints .i64 (s.2.2)), .arr false (false) (.ints .i64 (b))], .int .i64 (i : Int)] = some [.agg [.int .i64 (r), .arr true (false) (.r3 ((rfS s i).1)), .arr true (false) (.ints .i64 ((rfS s i).2.1)), .arr true (false) (.ints .i64 ((rfS s i).2.2)), .arr true (false) (.ints .i64 (b))]] := by
  obtain ⟨l, m, t⟩ := s
  simp only at hi hv ⊢
  rw [qm7]
  have L := U.len; have ml : m.length = l.length := U.ml; have tl : t.length = l.length := U.tl; have bl := U.bl; have rr := U.rr
  have a : 0 ≤ m.getD i 0 ∧ m.getD i 0 ≤ 10000000 ∧ 0 ≤ t.getD i 0 ∧ t.getD i 0 ≤ 1000 * m.getD i 0 := U.at i
  simp only at L
  have q := hAB a.1
  have sh := qx9 ⟨a.1, a.2.1⟩ ⟨a.2.2.1, a.2.2.2⟩
  simp only [shr] at sh
  have m1 : (m.take i).length = i := by rw [List.length_take]; omega
  have t1 : (t.take i).length = i := by rw [List.length_take]; omega
  have l2 : ∀ (x : List Int) (p q : Int), x.length = i → (x ++ [p, q]).length = i + 2 := fun x p q h => by rw [List.length_append, h]; rfl
  have m2 := fun p q => l2 (m.take i) p q m1
  have t2 := fun p q => l2 (t.take i) p q t1
  have m3 : ∀ p q : Int, (m.take i ++ [p, q] ++ m.drop (i + 1)).length = l.length + 1 := fun p q => by rw [List.length_append, m2, List.length_drop]; omega
  have t3 : ∀ p q : Int, (t.take i ++ [p, q] ++ t.drop (i + 1)).length = l.length + 1 := fun p q => by rw [List.length_append, t2, List.length_drop]; omega
  have cS := qf0 k (by omega) r false l i (by omega) hi (U.id hi) hv
  simp (disch := omega) only [dT, nI, Bool.and_true, Int.toNat_natCast, qfl, qfk, ton0, Nat.sub_zero, Nat.zero_add, List.drop_zero, qt8, m1, big0, m2, t1, t2, cS, qgr, q0f, qzf, m3, t3, Bool.false_and, dF, Bool.and_false, qhn, qa2, nth0, qgt, qzo, qgu, qt9, quz, nth1]
  rw [List.append_assoc, List.append_assoc]
  rfl
theorem qby (k : Nat) (hk : 2000000 ≤ k) (r : Int) (l : List Cell) (h : qtt r 0 l = true) (i : Nat) (hi : i < l.length) (hv : qq8 l i < 4) :
    go (k + 2) impl_Mesh_refine [.ptr true [.int .i64 r, .arr true false (.r3 l)], .int .i64 (i : Int)] = some [.ptr true [.int .i64 r, .arr true false (.r3 (qyh l i))]] := by
  rw [qiy]
  have L := qty h
  have id := qol.1 ((qtx _ _ _ h).2.2.2.1 _ hi).2.2
  have hp : pow2 (l.getD i zz3).2.1 ≤ 16 := by
    rcases lev (qoo.2 id.2.1) with e | e | e | e | e <;> rw [e] <;> decide
  have eR := qeu k false false l [ch0 (l.getD i zz3), ch1 (l.getD i zz3)] (i : Int) ((i + 1 : Nat) : Int) (by omega) (by omega) (by omega) (by simp) (by simp <;> omega) (by omega) (by simp)
  rw [Int.toNat_natCast, Int.toNat_natCast] at eR
  simp only [qq8] at hv
  simp (disch := omega) only [dT, nI, Bool.and_true, Int.toNat_natCast, qj3, q0f, Int.add_zero, qgr, qa2, nth0, qgt, qzo, qgu, qg5, eR, qt9, quz, qhn]
  rw [List.append_assoc]; rfl
theorem qda (k : Nat) (hk : 2000000 ≤ k) (r : Int) (s : S3) (b : List Int) (U : StU r s b) (i : Nat) (hi : i < s.1.length) (hv : qq8 s.1 i < 4) :
    go (k + 3) impl_State_refine [.ptr true [.int .i64 (r), .arr true (false) (.r3 (s.1)), .arr true (false) (.ints .i64 (s.2.1)), .arr true (false) (.ints .i64 (s.2.2)), .arr true (false) (.ints .i64 (b))], .int .i64 (i : Int)] = some [.ptr true [.int .i64 (r), .arr true (false) (.r3 ((rfS s i).1)), .arr true (false) (.ints .i64 ((rfS s i).2.1)), .arr true (false) (.ints .i64 ((rfS s i).2.2)), .arr true (false) (.ints .i64 (b))]] := by
  obtain ⟨l, m, t⟩ := s
  simp only at hi hv ⊢
  rw [qjq]
  have L := U.len; have ml : m.length = l.length := U.ml; have tl : t.length = l.length := U.tl; have bl := U.bl; have rr := U.rr
  have a : 0 ≤ m.getD i 0 ∧ m.getD i 0 ≤ 10000000 ∧ 0 ≤ t.getD i 0 ∧ t.getD i 0 ≤ 1000 * m.getD i 0 := U.at i
  simp only at L
  have q := hAB a.1
  have sh := qx9 ⟨a.1, a.2.1⟩ ⟨a.2.2.1, a.2.2.2⟩
  simp only [shr] at sh
  have eM := qby k (by omega) r l U.mesh i hi hv
  have e1 := qev (k + 1) false false m [hA (m.getD i 0), hB (m.getD i 0)] (i : Int) ((i + 1 : Nat) : Int) (by omega) (by omega) (by omega) (by simp) (by simp <;> omega) (by omega) (by simp)
  have e2 := qev (k + 1) false false t [qx2 (t.getD i 0) (hA (m.getD i 0)) (m.getD i 0), t.getD i 0 - qx2 (t.getD i 0) (hA (m.getD i 0)) (m.getD i 0)] (i : Int) ((i + 1 : Nat) : Int) (by omega) (by omega) (by omega) (by simp) (by simp <;> omega) (by omega) (by simp)
  rw [Int.toNat_natCast, Int.toNat_natCast] at e1 e2
  simp (disch := omega) only [dT, nI, Bool.and_true, Int.toNat_natCast, qb6, qb5, eM, qgr, q0f, qhn, qa2, nth0, quw, qzo, qux, qt9, quz, nth1, e1, e2, qoq]
  rw [List.append_assoc, List.append_assoc]
  rfl
theorem qba {a : Cell} (hid : idOk a.1 a.2.1 a.2.2 = true) (hv : 1 ≤ a.2.1) : (∀ (k : Nat), 2000000 ≤ k → go (k + 3) spec_ParentOf [.agg [.int .i64 a.1, .int .i64 a.2.1, .int .i64 a.2.2]] = some [.agg [.int .i64 (par a).1, .int .i64 (par a).2.1, .int .i64 (par a).2.2], .bool true]) ∧
    (∀ (k : Nat), 2000000 ≤ k → go (k + 4) impl_ParentOf [.agg [.int .i64 a.1, .int .i64 a.2.1, .int .i64 a.2.2]] = some [.agg [.int .i64 (par a).1, .int .i64 (par a).2.1, .int .i64 (par a).2.2], .bool true]) := by
  have id := qol.1 hid
  have hp : pow2 a.2.1 ≤ 16 := by
    rcases lev (qoo.2 id.2.1) with e | e | e | e | e <;> rw [e] <;> decide
  have e : Int.tdiv a.2.2 2 = a.2.2 / 2 := Int.tdiv_eq_ediv_of_nonneg id.2.2.1
  refine ⟨fun k hk => ?_, fun k hk => ?_⟩
  · rw [qmi]; simp (disch := omega) only [qe6, hid, bit, dF, q0f, e, qhl, qa2, nth0, qzn, Bool.not_true]
  · rw [qi1]; simp (disch := omega) only [qbp, hid, bit, dF, q0f, e, qhl, qa2, nth0, qzn, Bool.not_true]
theorem qf2 (k : Nat) (hk : 2000000 ≤ k) (r : Int) (z : Bool) (l : List Cell) (h : qtt r 0 l = true) (i : Nat) (hi : i + 1 < l.length) (hv : 1 ≤ qq8 l i) :
    go (k + 4) spec_l06Merge [.agg [.int .i64 r, .arr false z (.r3 l)], .int .i64 (i : Int)] = some [.agg [.int .i64 r, .arr true false (.r3 (qtp l i))]] := by
  rw [qm2]
  have L := qty h
  have eP := (qba ((qtx _ _ _ h).2.2.2.1 _ (show i < l.length by omega)).2.2 hv).1 k (by omega)
  have m1 : (l.take i).length = i := by rw [List.length_take]; omega
  have m2 : ∀ p : Cell, (l.take i ++ [p]).length = i + 1 := fun p => by rw [List.length_append, m1]; rfl
  have m3 : ∀ p : Cell, (l.take i ++ [p] ++ l.drop (i + 2)).length = l.length - 1 := fun p => by rw [List.length_append, m2, List.length_drop]; omega
  simp (disch := omega) only [dT, nI, Bool.and_true, Int.toNat_natCast, eP, ton0, Nat.sub_zero, Nat.zero_add, List.drop_zero, qt8, m1, big0, m2, qgs, q0f, qzf, m3, Bool.false_and, dF, Bool.and_false, qhn, qa2, nth0, qgt, qzo, qgu, qg5]
  rw [List.append_assoc]; rfl
theorem qf5 (k : Nat) (hk : 2000000 ≤ k) (r : Int) (s : S3) (b : List Int) (U : StU r s b) (i : Nat) (hi : i + 1 < s.1.length) (hv : 1 ≤ qq8 s.1 i) :
    go (k + 5) spec_l08Merge [.agg [.int .i64 (r), .arr false (false) (.r3 (s.1)), .arr false (false) (.ints .i64 (s.2.1)), .arr false (false) (.ints .i64 (s.2.2)), .arr false (false) (.ints .i64 (b))], .int .i64 (i : Int)] = some [.agg [.int .i64 (r), .arr true (false) (.r3 ((cmS s i).1)), .arr true (false) (.ints .i64 ((cmS s i).2.1)), .arr true (false) (.ints .i64 ((cmS s i).2.2)), .arr true (false) (.ints .i64 (b))]] := by
  obtain ⟨l, m, t⟩ := s
  simp only at hi hv ⊢
  rw [qm6]
  have L := U.len; have ml : m.length = l.length := U.ml; have tl : t.length = l.length := U.tl; have bl := U.bl; have rr := U.rr
  have a : 0 ≤ m.getD i 0 ∧ m.getD i 0 ≤ 10000000 ∧ 0 ≤ t.getD i 0 ∧ t.getD i 0 ≤ 1000 * m.getD i 0 := U.at i
  have a' : 0 ≤ m.getD (i + 1) 0 ∧ m.getD (i + 1) 0 ≤ 10000000 ∧ 0 ≤ t.getD (i + 1) 0 ∧ t.getD (i + 1) 0 ≤ 1000 * m.getD (i + 1) 0 := U.at (i + 1)
  simp only at L
  have eM := qf2 k (by omega) r false l U.mesh i hi hv
  have m1 : (m.take i).length = i := by rw [List.length_take]; omega
  have t1 : (t.take i).length = i := by rw [List.length_take]; omega
  have m2 : ∀ p : Int, (m.take i ++ [p]).length = i + 1 := fun p => by rw [List.length_append, m1]; rfl
  have t2 : ∀ p : Int, (t.take i ++ [p]).length = i + 1 := fun p => by rw [List.length_append, t1]; rfl
  have m3 : (m.take i ++ [m.getD i 0 + m.getD (i + 1) 0] ++ m.drop (i + 2)).length + 1 = l.length := by rw [List.length_append, m2, List.length_drop]; omega
  have t3 : (t.take i ++ [t.getD i 0 + t.getD (i + 1) 0] ++ t.drop (i + 2)).length + 1 = l.length := by rw [List.length_append, t2, List.length_drop]; omega
  simp (disch := omega) only [dT, Bool.and_true, nI, Int.toNat_natCast, ton0, Nat.sub_zero, Nat.zero_add, List.drop_zero, qt8, m1, big0, qgr, q0f, m2, t1, t2, eM, qgs, qzf, Bool.false_and, dF, Bool.and_false, qhn, qa2, nth0, qgt, qzo, qgu, qt9, quz]
  rw [List.append_assoc, List.append_assoc]
  rfl
theorem qbx (k : Nat) (hk : 2000000 ≤ k) (r : Int) (l : List Cell) (h : qtt r 0 l = true) (i : Nat) (hi : i + 1 < l.length) (hv : 1 ≤ qq8 l i) :
    go (k + 5) impl_Mesh_coarsen [.ptr true [.int .i64 r, .arr true false (.r3 l)], .int .i64 (i : Int)] = some [.ptr true [.int .i64 r, .arr true false (.r3 (qtp l i))]] := by
  rw [qit]
  have L := qty h
  have eP := (qba ((qtx _ _ _ h).2.2.2.1 _ (show i < l.length by omega)).2.2 hv).2 k (by omega)
  have eR := qeu (k + 3) false false l [par (l.getD i zz3)] (i : Int) ((i + 2 : Nat) : Int) (by omega) (by omega) (by omega) (by simp) (by simp <;> omega) (by omega) (by simp)
  rw [Int.toNat_natCast, Int.toNat_natCast] at eR
  simp (disch := omega) only [dT, nI, Bool.and_true, Int.toNat_natCast, eP, qgs, q0f, qa2, nth0, qgt, qzo, qgu, qg5, eR, qt9, quz, qhn]
  rw [List.append_assoc]; rfl
theorem qck (k : Nat) (hk : 2000000 ≤ k) (r : Int) (s : S3) (b : List Int) (U : StU r s b) (i : Nat) (hi : i + 1 < s.1.length) (hv : 1 ≤ qq8 s.1 i) :
    go (k + 6) impl_State_coarsen [.ptr true [.int .i64 (r), .arr true (false) (.r3 (s.1)), .arr true (false) (.ints .i64 (s.2.1)), .arr true (false) (.ints .i64 (s.2.2)), .arr true (false) (.ints .i64 (b))], .int .i64 (i : Int)] = some [.ptr true [.int .i64 (r), .arr true (false) (.r3 ((cmS s i).1)), .arr true (false) (.ints .i64 ((cmS s i).2.1)), .arr true (false) (.ints .i64 ((cmS s i).2.2)), .arr true (false) (.ints .i64 (b))]] := by
  obtain ⟨l, m, t⟩ := s
  simp only at hi hv ⊢
  rw [qjf]
  have L := U.len; have ml : m.length = l.length := U.ml; have tl : t.length = l.length := U.tl; have bl := U.bl; have rr := U.rr
  have a : 0 ≤ m.getD i 0 ∧ m.getD i 0 ≤ 10000000 ∧ 0 ≤ t.getD i 0 ∧ t.getD i 0 ≤ 1000 * m.getD i 0 := U.at i
  have a' : 0 ≤ m.getD (i + 1) 0 ∧ m.getD (i + 1) 0 ≤ 10000000 ∧ 0 ≤ t.getD (i + 1) 0 ∧ t.getD (i + 1) 0 ≤ 1000 * m.getD (i + 1) 0 := U.at (i + 1)
  simp only at L
  have eM := qbx k (by omega) r l U.mesh i hi hv
  have e1 := qev (k + 4) false false m [m.getD i 0 + m.getD (i + 1) 0] (i : Int) ((i + 2 : Nat) : Int) (by omega) (by omega) (by omega) (by simp) (by simp <;> omega) (by omega) (by simp)
  have e2 := qev (k + 4) false false t [t.getD i 0 + t.getD (i + 1) 0] (i : Int) ((i + 2 : Nat) : Int) (by omega) (by omega) (by omega) (by simp) (by simp <;> omega) (by omega) (by simp)
  rw [Int.toNat_natCast, Int.toNat_natCast] at e1 e2
  simp (disch := omega) only [eM, dT, nI, Bool.and_true, qgr, q0f, qgs, Int.toNat_natCast, e1, e2, qa2, nth0, qt9, qoq, qhn, quw, qzo, qux, quz]
  rw [List.append_assoc, List.append_assoc]
  rfl
end Go.Proofs.YtoldpdhhfmlckaaGreat
end
section
namespace Go.Proofs.YtoldpdhhfmlckaaGreat
open Go.Ev
set_option maxRecDepth 20000
theorem qa8 {a b : Cell} (ha : idOk a.1 a.2.1 a.2.2 = true) (hb : idOk b.1 b.2.1 b.2.2 = true) : (∀ (k : Nat), 2000000 ≤ k → go (k + 3) spec_IsSibling [.agg [.int .i64 a.1, .int .i64 a.2.1, .int .i64 a.2.2], .agg [.int .i64 b.1, .int .i64 b.2.1, .int .i64 b.2.2]] = some [.bool (sib a b)]) ∧
    (∀ (k : Nat), 2000000 ≤ k → go (k + 5) impl_IsSibling [.agg [.int .i64 a.1, .int .i64 a.2.1, .int .i64 a.2.2], .agg [.int .i64 b.1, .int .i64 b.2.1, .int .i64 b.2.2]] = some [.bool (sib a b)]) := by
  have ia := qol.1 ha; have ib := qol.1 hb
  have pa : pow2 a.2.1 ≤ 16 := by
    rcases lev (qoo.2 ia.2.1) with e | e | e | e | e <;> rw [e] <;> decide
  have ea : Int.tmod a.2.2 2 = a.2.2 % 2 := Int.tmod_eq_emod_of_nonneg ia.2.2.1
  have da : Int.tdiv a.2.2 2 = a.2.2 / 2 := Int.tdiv_eq_ediv_of_nonneg ia.2.2.1
  have db : Int.tdiv b.2.2 2 = b.2.2 / 2 := Int.tdiv_eq_ediv_of_nonneg ib.2.2.1
  have pb : pow2 b.2.1 ≤ 16 := by
    rcases lev (qoo.2 ib.2.1) with e | e | e | e | e <;> rw [e] <;> decide
  constructor
  · intro k hk
    rw [qmc]
    simp (disch := omega) only [qe6, ha, bit, hb, ea, q0f, qa2, nth0, qzn, qhn]
    unfold sib
    rw [ha, hb]
    by_cases h1 : a.1 = b.1
    · by_cases h2 : a.2.1 = b.2.1
      · by_cases h3 : a.2.2 % 2 = 0
        · simp (disch := omega) only [dT, qhn, Bool.true_and]
        · simp (disch := omega) only [dT, dF, qhl, qhn, Bool.false_and, Bool.and_false]
      · simp (disch := omega) only [dT, dF, qhl, qhn, Bool.false_and, Bool.and_false]
    · simp (disch := omega) only [dF, qhl, Bool.false_and, Bool.and_false]
  · intro k hk
    rw [qim, qi1, qi1]
    by_cases z1 : a.2.1 = 0
    · have sf : sib a b = false := by
        rw [← Bool.not_eq_true]; intro hs; have := qya hs; omega
      rw [sf]
      by_cases z2 : b.2.1 = 0
      · simp (disch := omega) only [qbp, ha, bit, dT, q0f, qhn, qa2, nth0, qzn, Bool.not_true, qhl, hb, Bool.and_true, nth1, qgt, qzo, qgu, qg5]
      · simp (disch := omega) only [qbp, ha, bit, dT, q0f, qhn, qa2, nth0, qzn, Bool.not_true, qhl, hb, dF, Bool.and_true, nth1, qgt, qzo, qgu, qg5]
    · by_cases z2 : b.2.1 = 0
      · have sf : sib a b = false := by
          rw [← Bool.not_eq_true]; intro hs
          simp only [sib, Bool.and_eq_true, decide_eq_true_eq] at hs
          omega
        rw [sf]
        simp (disch := omega) only [qbp, ha, bit, dF, q0f, qhl, qa2, nth0, qzn, Bool.not_true, hb, dT, qhn, Bool.and_true, nth1, qgt, qzo, qgu, qg5]
      · unfold sib
        rw [ha, hb]
        simp (disch := omega) only [qbp, ha, bit, dF, q0f, da, qhl, qa2, nth0, qzn, Bool.not_true, hb, db, Bool.and_true, ea, nth1, qgt, qzo, qgu, qg5, qhn, Bool.true_and]
        by_cases h1 : a.1 = b.1
        · by_cases h2 : a.2.1 = b.2.1
          · by_cases h3 : a.2.2 % 2 = 0
            · by_cases h5 : b.2.2 = a.2.2 + 1
              · simp (disch := omega) only [dT, Bool.and_true, qhn]
              · by_cases h6 : a.2.2 / 2 = b.2.2 / 2
                · simp (disch := omega) only [dT, Bool.and_true, dF, qhn, Bool.and_false]
                · simp (disch := omega) only [dT, dF, Bool.and_false, qhn, qhl]
            · by_cases h6 : a.2.2 / 2 = b.2.2 / 2
              · simp (disch := omega) only [dT, Bool.and_true, dF, qhl, qhn, Bool.and_false]
              · simp (disch := omega) only [dT, dF, Bool.and_false, qhl, Bool.false_and]
          · simp (disch := omega) only [dT, dF, Bool.false_and, Bool.and_false, qhl]
        · simp (disch := omega) only [dF, Bool.false_and, qhl]
theorem qf1 (k : Nat) (hk : 2000000 ≤ k) (r : Int) (z : Bool) (l : List Cell) (h : qtt r 0 l = true) (i : Nat) (hi : i + 1 < l.length) :
    go (k + 4) spec_l06May [.agg [.int .i64 r, .arr false z (.r3 l)], .int .i64 (i : Int)] = some [.bool (mayC l i)] := by
  rw [qm1]
  have L := qty h
  have id := fun j (hj : j < l.length) => ((qtx _ _ _ h).2.2.2.1 _ hj).2.2
  have eS := (qa8 (id i (by omega)) (id (i + 1) hi)).1 k (by omega)
  unfold mayC
  simp (disch := omega) only [dT, nI, Bool.and_true, qgr, q0f, Int.toNat_natCast, eS, bit, qgs, Bool.true_and, qa2, nth0, qzn, qhn]
  cases sib (l.getD i zz3) (l.getD (i + 1) zz3)
  · simp (disch := omega) only [Bool.not_false, qhn, Bool.false_and]
  by_cases h0 : i = 0
  · subst h0
    by_cases h1 : l.length ≤ 2
    · simp (disch := omega) only [Bool.not_true, dT, dF, qhl, qhn, dTT, Bool.true_or, Bool.and_true]
    · simp only [qq8]
      simp (disch := omega) only [Bool.not_true, dT, Nat.zero_add, dF, qhn, qhl, dTT, Bool.true_or, Bool.false_or, Bool.true_and]
  · by_cases h1 : l.length ≤ i + 2
    · simp only [qq8]
      by_cases h2 : (l.getD (i - 1) zz3).2.1 ≤ (l.getD i zz3).2.1
      · simp (disch := omega) only [Bool.not_true, dF, dT, qhl, qhn, qgq, Int.toNat_natCast, Bool.or_true, Bool.true_or, Bool.and_true]
      · simp (disch := omega) only [Bool.not_true, dF, dT, qhl, qhn, qgq, Int.toNat_natCast, Bool.or_false, Bool.true_or, Bool.and_true, Bool.and_false]
    · simp only [qq8]
      by_cases h2 : (l.getD (i - 1) zz3).2.1 ≤ (l.getD i zz3).2.1
      · simp (disch := omega) only [Bool.not_true, dF, dT, qhn, qhl, qgq, Int.toNat_natCast, Bool.or_true, Bool.false_or, Bool.true_and]
      · simp (disch := omega) only [Bool.not_true, dF, dT, qhn, qhl, qgq, Int.toNat_natCast, Bool.or_false, Bool.false_or, Bool.false_and, Bool.and_false]
theorem qc4 (k : Nat) (hk : 2000000 ≤ k) (r : Int) (z : Bool) (l : List Cell) (h : qtt r 0 l = true) (i : Nat) (hi : i + 1 < l.length) :
    go (k + 6) impl_Mesh_mayCoarsen [.agg [.int .i64 r, .arr false z (.r3 l)], .int .i64 (i : Int)] = some [.bool (mayC l i)] := by
  rw [qiw]
  have L := qty h
  have id := fun j (hj : j < l.length) => ((qtx _ _ _ h).2.2.2.1 _ hj).2.2
  have eS := (qa8 (id i (by omega)) (id (i + 1) hi)).2 k (by omega)
  have b1 : inR (i : Int) 0 ((l.length : Int) - 1) = true := qoo.2 (by omega)
  have b2 : inR ((i + 1 : Nat) : Int) 0 ((l.length : Int) - 1) = true := qoo.2 (by omega)
  unfold mayC
  simp (disch := omega) only [qcu, b1, bit, qgr, q0f, b2, dT, nI, Bool.and_true, Int.toNat_natCast, eS, qgs, Bool.true_and, Bool.not_false, qa2, nth0, qzn, qhn, Bool.not_true, qhl]
  cases sib (l.getD i zz3) (l.getD (i + 1) zz3)
  · simp (disch := omega) only [Bool.not_false, qhn, Bool.false_and]
  by_cases h0 : i = 0
  · subst h0
    have b3 : inR (((0 : Nat) : Int) - 1) 0 ((l.length : Int) - 1) = false := by rw [← Bool.not_eq_true, qoo]; omega
    by_cases h1 : l.length ≤ 2
    · have b4 : inR ((0 + 2 : Nat) : Int) 0 ((l.length : Int) - 1) = false := by rw [← Bool.not_eq_true, qoo]; omega
      simp (disch := omega) only [Bool.not_true, b3, dF, b4, qhl, dTT, Bool.true_or, dT, Bool.and_true]
    · have b4 : inR ((0 + 2 : Nat) : Int) 0 ((l.length : Int) - 1) = true := qoo.2 (by omega)
      simp only [qq8]
      by_cases h3 : (l.getD (0 + 2) zz3).2.1 ≤ (l.getD 0 zz3).2.1
      · simp (disch := omega) only [Bool.not_true, b3, dF, b4, dT, Bool.not_false, qhn, qhl, dTT, Bool.true_or, Bool.or_true, Bool.and_true]
      · simp (disch := omega) only [Bool.not_true, b3, dF, b4, dT, qhn, qhl, dTT, Bool.true_or, Bool.or_false, Bool.and_false]
  · have ci : (i : Int) - 1 = ((i - 1 : Nat) : Int) := by omega
    have b3 : inR (((i - 1 : Nat) : Nat) : Int) 0 ((l.length : Int) - 1) = true := qoo.2 (by omega)
    simp only [qq8]
    by_cases h2 : (l.getD (i - 1) zz3).2.1 ≤ (l.getD i zz3).2.1
    · by_cases h1 : l.length ≤ i + 2
      · have b4 : inR ((i + 2 : Nat) : Int) 0 ((l.length : Int) - 1) = false := by rw [← Bool.not_eq_true, qoo]; omega
        simp (disch := omega) only [Bool.not_true, ci, b3, dT, Int.toNat_natCast, dF, Bool.not_false, b4, qhl, qhn, Bool.or_true, Bool.true_or, Bool.and_true]
      · have b4 : inR ((i + 2 : Nat) : Int) 0 ((l.length : Int) - 1) = true := qoo.2 (by omega)
        by_cases h3 : (l.getD (i + 2) zz3).2.1 ≤ (l.getD i zz3).2.1
        · simp (disch := omega) only [Bool.not_true, ci, b3, dT, Int.toNat_natCast, dF, Bool.not_false, b4, qhn, qhl, Bool.or_true, Bool.and_true]
        · simp (disch := omega) only [Bool.not_true, ci, b3, dT, Int.toNat_natCast, dF, Bool.not_false, b4, qhn, qhl, Bool.or_true, Bool.or_false, Bool.and_false]
    · simp (disch := omega) only [Bool.not_true, ci, b3, dT, Int.toNat_natCast, qhl, qhn, dF, Bool.or_false, Bool.false_and, Bool.and_false]
def toR (l : List Cell) : Int := if unb l < 0 then unb l else ((qhi l (unb l).toNat : Nat) : Int)
theorem qdi (k : Nat) (hk : 2000000 ≤ k) (r : Int) (z : Bool) (l : List Cell) (h : qtt r 0 l = true) : go (k + 3) impl_Mesh_toRefine [.agg [.int .i64 r, .arr false z (.r3 l)]] = some [.int .i64 (toR l)] := by
  rw [qiz]
  have L := qty h
  have mv := qtz _ _ _ h
  rw [qdj k (by omega) _ _ _ (by omega) mv]
  unfold toR
  by_cases g : unb l < 0
  · rw [if_pos g]; simp (disch := omega) only [nI, qa2, nth0, qzo, dF, dT, Bool.and_true, qhl]
  · rw [if_neg g]
    obtain ⟨j, e, h1, h2⟩ := qzv (by omega : 0 ≤ unb l)
    rw [e, Int.toNat_natCast]
    unfold qhi
    by_cases g2 : qq8 l (j + 1) < qq8 l j
    · rw [if_pos g2]; simp only [qq8] at g2; simp (disch := omega) only [nI, qa2, nth0, qzo, dT, Bool.and_true, qgr, q0f, Int.toNat_natCast, qhn]
    · rw [if_neg g2]; simp only [qq8] at g2; simp (disch := omega) only [nI, qa2, nth0, qzo, dT, Bool.and_true, qgr, q0f, Int.toNat_natCast, dF, qhl, qhn]
theorem qrw (k : Nat) (hk : 2000000 ≤ k) (fu : List (Nat × Nat)) (w0 : Int) (v1 : Bool) (w1 : List Cell) (v2 : Bool) (w2 : List Int) (v3 : Bool) (w3 : List Int) (v4 : Bool) (w4 : List Int) (r : Int) (b : List Int) : ∀ (N n : Nat) (s : S3), N < n → StU r s b → 129 ≤ N + s.1.length →
    lp (k + 3) impl_State_balance [.ptr true [.int .i64 w0, .arr true v1 (.r3 w1), .arr true v2 (.ints .i64 w2), .arr true v3 (.ints .i64 w3), .arr true v4 (.ints .i64 w4)]] fu 1 n (qv8 (toR s.1) false s.1 false s.2.1 false s.2.2 false b r) = some [.ptr true [.int .i64 (r), .arr true (false) (.r3 ((lvS N s).1)), .arr true (false) (.ints .i64 ((lvS N s).2.1)), .arr true (false) (.ints .i64 ((lvS N s).2.2)), .arr true (false) (.ints .i64 (b))]]
  | N, 0, s, hn, U, hN => by omega
  | 0, n + 1, s, hn, U, hN => by have := U.len; omega
  | N + 1, n + 1, s, hn, U, hN => by
    rw [qpg]
    have L := U.len
    unfold lvS toR
    by_cases g : unb s.1 < 0
    · rw [if_pos g, if_pos g]; simp (disch := omega) only [dF, qhl]
    · rw [if_neg g, if_neg g]
      obtain ⟨j, e, h1, h2⟩ := qzv (by omega : 0 ≤ unb s.1)
      have c := qhj U.mesh h1 h2
      rw [e, Int.toNat_natCast]
      have U' := rf_U U c.1 c.2
      have IH := qrw k hk fu w0 v1 w1 v2 w2 v3 w3 v4 w4 r b N n _ (by omega) U' (by show 129 ≤ N + (qyh s.1 _).length; rw [qyi c.1]; omega)
      have eR := qda k (by omega) r s b U (qhi s.1 j) c.1 c.2
      have eT := qdi k (by omega) r false _ U'.mesh
      simp (disch := omega) only [dT, eR, qa2, nth0, quw, qzo, qux, qt9, quz, eT, quy, qoq, qzr, qzs, IH, qhn]
theorem qci (k : Nat) (hk : 2000000 ≤ k) (r : Int) (s : S3) (b : List Int) (U : StU r s b) : go (k + 4) impl_State_balance [.ptr true [.int .i64 (r), .arr true (false) (.r3 (s.1)), .arr true (false) (.ints .i64 (s.2.1)), .arr true (false) (.ints .i64 (s.2.2)), .arr true (false) (.ints .i64 (b))]] = some [.ptr true [.int .i64 (r), .arr true (false) (.r3 ((lvS 128 s).1)), .arr true (false) (.ints .i64 ((lvS 128 s).2.1)), .arr true (false) (.ints .i64 ((lvS 128 s).2.2)), .arr true (false) (.ints .i64 (b))]] := by
  rw [qjd]
  have eT := qdi k (by omega) r false _ U.mesh
  have L := U.len
  simp (disch := omega) only [eT, qa2, nth0, qzo]
  exact qrw k hk [] _ _ _ _ _ _ _ _ _ r b 128 _ s (by omega) U (by omega)
theorem qs7 (k : Nat) (hk : 2000000 ≤ k) (fu : List (Nat × Nat)) (z10 : Bool) (l11 : List Cell) (z12 : Bool) (l13 : List Int) (z14 : Bool) (l15 : List Int) (z16 : Bool) (l17 : List Int) (x18 : Int) (r : Int) (b : List Int) : ∀ (N n : Nat) (s : S3), N < n → StU r s b → 129 ≤ N + s.1.length →
    lp (k + 5) spec_l08Level [] fu 2 (n) (qxi (unb s.1) false s.1 false s.2.1 false s.2.2 false b r z10 l11 z12 l13 z14 l15 z16 l17 x18) = some [.agg [.int .i64 (r), .arr true (false) (.r3 ((lvS N s).1)), .arr true (false) (.ints .i64 ((lvS N s).2.1)), .arr true (false) (.ints .i64 ((lvS N s).2.2)), .arr true (false) (.ints .i64 (b))]]
  | N, 0, s, hn, U, hN => by omega
  | 0, n + 1, s, hn, U, hN => by have := U.len; omega
  | N + 1, n + 1, s, hn, U, hN => by
    rw [qqq]
    have L := U.len
    unfold lvS
    by_cases g : unb s.1 < 0
    · rw [if_pos g]; simp (disch := omega) only [dF, qhl]
    · rw [if_neg g]
      obtain ⟨j, e, h1, h2⟩ := qzv (by omega : 0 ≤ unb s.1)
      have c := qhj U.mesh h1 h2
      rw [e, Int.toNat_natCast]
      have U' := rf_U U c.1 c.2
      have L' := U'.len
      have IH := qs7 k hk fu z10 l11 z12 l13 z14 l15 z16 l17 x18 r b N n _ (by omega) U' (by show 129 ≤ N + (qyh s.1 _).length; rw [qyi c.1]; omega)
      have eC := qfx (k + 4) (by omega) r false s.1 j (by omega) h1
      have eR := qf6 k (by omega) r s b U (qhi s.1 j) c.1 c.2
      have eT := qfz (k + 4) (by omega) r false (rfS s (qhi s.1 j)).1 (by omega) (qtz _ _ _ U'.mesh)
      simp (disch := omega) only [dT, eC, qa2, nth0, qzo, eR, qgt, qgu, qt9, quz, eT, qg5, qoq, qg7, qg8, IH, qhn]
theorem qgm (k : Nat) (hk : 2000000 ≤ k) (r : Int) (s : S3) (b : List Int) (U : StU r s b) : go (k + 6) spec_l08Level [.agg [.int .i64 (r), .arr true (false) (.r3 (s.1)), .arr true (false) (.ints .i64 (s.2.1)), .arr true (false) (.ints .i64 (s.2.2)), .arr true (false) (.ints .i64 (b))]] = some [.agg [.int .i64 (r), .arr true (false) (.r3 ((lvS 128 s).1)), .arr true (false) (.ints .i64 ((lvS 128 s).2.1)), .arr true (false) (.ints .i64 ((lvS 128 s).2.2)), .arr true (false) (.ints .i64 (b))]] := by
  rw [qm5]
  have L := U.len
  have eT := qfz (k + 4) (by omega) r false s.1 (by omega) (qtz _ _ _ U.mesh)
  simp (disch := omega) only [eT, qa2, nth0, qzo]
  exact qs7 k hk [] _ _ _ _ _ _ _ _ _ r b 128 _ s (by omega) U (by omega)
end Go.Proofs.YtoldpdhhfmlckaaGreat
end
section
namespace Go.Proofs.YtoldpdhhfmlckaaGreat
open Go.Ev
set_option maxRecDepth 20000
theorem len2 (x y : Int) : List.length [x, y] = 2 := Eq.trans rfl rfl
theorem gd0 (x y : Int) : List.getD [x, y] 0 0 = x := Eq.trans rfl rfl
theorem gd1 (x y : Int) : List.getD [x, y] 1 0 = y := Eq.trans rfl rfl
theorem len1 (x : Int) : List.length [x] = 1 := Eq.trans rfl rfl
theorem len0 : List.length ([] : List Int) = 0 := Eq.trans rfl rfl
theorem gdo (x : Int) : List.getD [x] 0 0 = x := Eq.trans rfl rfl
theorem ton1 : Int.toNat 1 = 1 := Eq.trans rfl rfl
def nb (l : List Cell) (i : Nat) : List Int := if 0 < i then (if i + 1 < l.length then [((i - 1 : Nat) : Int), ((i + 1 : Nat) : Int)] else [((i - 1 : Nat) : Int)]) else (if i + 1 < l.length then [((i + 1 : Nat) : Int)] else [])
theorem qc6 (k : Nat) (hk : 2000000 ≤ k) (r : Int) (z : Bool) (l : List Cell) (h : qtt r 0 l = true) (i : Nat) (hi : i < l.length) :
    go (k + 3) impl_Mesh_neighbours [.agg [.int .i64 r, .arr false z (.r3 l)], .int .i64 (i : Int)] = some [.arr true false (.ints .i64 (nb l i))] := by
  rw [qix]
  have L := qty h
  have w1 : IntKind.wrap .i64 ((i : Int) - 1) = (i : Int) - 1 := q0f (by omega) (by omega)
  have w2 : IntKind.wrap .i64 ((i : Int) + 1) = ((i + 1 : Nat) : Int) := by rw [q0f (by omega) (by omega)]; omega
  have w3 : IntKind.wrap .i64 ((0 : Int) + 1) = 1 := by rw [q0f (by omega) (by omega)]; rfl
  have w4 : IntKind.wrap .i64 ((1 : Int) + 1) = 2 := by rw [q0f (by omega) (by omega)]; rfl
  rw [w1, w2, len2]
  have n2 : nI 2 = 2 := Eq.trans rfl rfl
  rw [n2]
  have la : ∀ x : Int, ([] ++ [x] : List Int).length = 1 := fun x => rfl
  have lb : ∀ x y : Int, ([x] ++ [y] : List Int).length = 2 := fun x y => rfl
  have f0 := qo9 (k + 2) (k + 2 - 1) [] 2 0 z l r false [] false [(i : Int) - 1, ((i + 1 : Nat) : Int)]
  have f1 := fun x => qo9 (k + 2) (k + 2 - 2) [] 2 1 z l r false x false [(i : Int) - 1, ((i + 1 : Nat) : Int)]
  have f2 := fun x => qo9 (k + 2) (k + 2 - 3) [] 2 2 z l r false x false [(i : Int) - 1, ((i + 1 : Nat) : Int)]
  rw [show k + 2 - 1 + 1 = k + 2 by omega] at f0
  rw [show k + 2 - 2 + 1 = k + 2 - 1 by omega] at f1
  rw [show k + 2 - 3 + 1 = k + 2 - 2 by omega] at f2
  simp (disch := omega) only [dF, dT, nI, len2, Bool.and_false, bit, big0, q0f, Bool.false_and, qhl] at f2
  unfold nb
  by_cases h0 : 0 < i
  · have b1 : inR ((i : Int) - 1) 0 ((l.length : Int) - 1) = true := qoo.2 (by omega)
    have ci : (i : Int) - 1 = ((i - 1 : Nat) : Int) := by omega
    rw [if_pos h0]
    by_cases h1 : i + 1 < l.length
    · have b2 : inR ((i + 1 : Nat) : Int) 0 ((l.length : Int) - 1) = true := qoo.2 (by omega)
      rw [if_pos h1]
      simp (disch := omega) only [dT, nI, len2, Bool.and_true, ton1, gd1, qcu, b2, bit, big0, w4, Bool.false_and, f2, qa2, nth0, qzn, qhn] at f1
      simp (disch := omega) only [dT, nI, len2, Bool.and_true, ton0, gd0, qcu, b1, bit, qt8, len1, big0, w3, dF, Bool.and_false, f1, lb, qhn, qa2, nth0, qzn] at f0
      rw [← ci]; exact f0
    · have b2 : inR ((i + 1 : Nat) : Int) 0 ((l.length : Int) - 1) = false := by rw [← Bool.not_eq_true, qoo]; omega
      rw [if_neg h1]
      simp (disch := omega) only [dT, nI, len2, Bool.and_true, ton1, gd1, qcu, b2, bit, big0, w4, Bool.false_and, f2, qa2, nth0, qzn, qhl, qhn] at f1
      simp (disch := omega) only [dT, nI, len2, Bool.and_true, ton0, gd0, qcu, b1, bit, qt8, len1, big0, w3, dF, Bool.and_false, f1, qhn, qa2, nth0, qzn] at f0
      rw [← ci]; exact f0
  · have b1 : inR ((i : Int) - 1) 0 ((l.length : Int) - 1) = false := by rw [← Bool.not_eq_true, qoo]; omega
    rw [if_neg h0]
    by_cases h1 : i + 1 < l.length
    · have b2 : inR ((i + 1 : Nat) : Int) 0 ((l.length : Int) - 1) = true := qoo.2 (by omega)
      rw [if_pos h1]
      simp (disch := omega) only [dT, nI, len2, Bool.and_true, ton1, gd1, qcu, b2, bit, big0, w4, Bool.false_and, f2, qa2, nth0, qzn, qhn] at f1
      have f1' := f1 []
      simp (disch := omega) only [qt8, len1, dT, qhn] at f1'
      simp (disch := omega) only [dT, nI, len2, Bool.and_true, ton0, gd0, qcu, b1, bit, qt8, big0, w3, Bool.false_and, f1', qa2, nth0, qzn, qhl, qhn] at f0
      exact f0
    · have b2 : inR ((i + 1 : Nat) : Int) 0 ((l.length : Int) - 1) = false := by rw [← Bool.not_eq_true, qoo]; omega
      rw [if_neg h1]
      simp (disch := omega) only [dT, nI, len2, Bool.and_true, ton1, gd1, qcu, b2, bit, big0, w4, Bool.false_and, f2, qa2, nth0, qzn, qhl, qhn] at f1
      simp (disch := omega) only [dT, nI, len2, Bool.and_true, ton0, gd0, qcu, b1, bit, qt8, big0, w3, Bool.false_and, f1, qa2, nth0, qzn, qhl, qhn] at f0
      exact f0
def jmp (l : List Cell) (m b : List Int) (i : Nat) : Int := max (if 0 < i then gap (surf l m b i) (surf l m b (i - 1)) else 0) (if i + 1 < l.length then gap (surf l m b i) (surf l m b (i + 1)) else 0)
theorem qn8 (a b : Int) : 0 ≤ gap a b := by unfold gap; split <;> omega
theorem qn7 (a b : Int) : max (0 - (a - b)) (a - b) = gap a b := by unfold gap; split <;> omega
theorem qge (k : Nat) (hk : 2000000 ≤ k) (r : Int) (z1 z2 z3 z4 : Bool) (l : List Cell) (m t b : List Int) (F : StF r l m t b) (i : Nat) (hi : i < l.length) :
    go (k + 2) spec_l16Jump [.agg [.int .i64 (r), .arr false (z1) (.r3 (l)), .arr false (z2) (.ints .i64 (m)), .arr false (z3) (.ints .i64 (t)), .arr false (z4) (.ints .i64 (b))], .int .i64 (i : Int)] = some [.int .i64 (jmp l m b i)] := by
  rw [qnj]
  have L := F.len; have ml := F.ml
  have s0 := qy5 F i; have s1 := qy5 F (i - 1); have s2 := qy5 F (i + 1)
  have g1 := qn8 (surf l m b i) (surf l m b (i - 1)); have g2 := qn8 (surf l m b i) (surf l m b (i + 1))
  have e0 := qga k (by omega) r z1 z2 z3 z4 l m t b F i hi
  unfold jmp
  by_cases h0 : 0 < i
  · have ci : (i : Int) - 1 = ((i - 1 : Nat) : Int) := by omega
    have e1 := qga k (by omega) r z1 z2 z3 z4 l m t b F (i - 1) (by omega)
    rw [if_pos h0]
    by_cases h1 : i + 1 < l.length
    · have e2 := qga k (by omega) r z1 z2 z3 z4 l m t b F (i + 1) (by omega)
      rw [if_pos h1]
      simp (disch := omega) only [dT, e0, ci, q0f, e1, qgr, nI, e2, imax, qa2, nth0, qzo, qf8, qhn]
      rw [show ∀ x y : Int, max x y = max y x from fun x y => by omega]
    · rw [if_neg h1]
      simp (disch := omega) only [dT, e0, ci, q0f, e1, qgr, nI, dF, imax, qa2, nth0, qzo, qhl, qf8, qhn]
      rw [show max (gap (surf l m b i) (surf l m b (i - 1))) 0 = gap (surf l m b i) (surf l m b (i - 1)) by omega]
  · rw [if_neg h0]
    by_cases h1 : i + 1 < l.length
    · have e2 := qga k (by omega) r z1 z2 z3 z4 l m t b F (i + 1) (by omega)
      rw [if_pos h1]
      simp (disch := omega) only [dF, e0, q0f, qgr, nI, dT, e2, imax, qa2, nth0, qzo, qf8, qhn, qhl]
      rw [show ∀ x y : Int, max x y = max y x from fun x y => by omega]
    · rw [if_neg h1]
      simp (disch := omega) only [dF, q0f, qgr, nI, imax, qhl]
      rfl
set_option maxHeartbeats 4000000 in
theorem qc1 (k : Nat) (hk : 2000000 ≤ k) (r : Int) (z1 z2 z3 z4 : Bool) (l : List Cell) (m t b : List Int) (F : StF r l m t b) (i : Nat) (hi : i < l.length) :
    go (k + 4) impl_State_jump [.agg [.int .i64 (r), .arr false (z1) (.r3 (l)), .arr false (z2) (.ints .i64 (m)), .arr false (z3) (.ints .i64 (t)), .arr false (z4) (.ints .i64 (b))], .int .i64 (i : Int)] = some [.int .i64 (jmp l m b i)] := by
  rw [qjk]
  have L := F.len; have ml := F.ml
  have s0 := qy5 F i; have s1 := qy5 F (i - 1); have s2 := qy5 F (i + 1)
  have g1 := qn8 (surf l m b i) (surf l m b (i - 1)); have g2 := qn8 (surf l m b i) (surf l m b (i + 1))
  have e0 := qdh (k + 2) (by omega) r z1 z2 z3 z4 l m t b F i hi
  have eN := qc6 k (by omega) r z1 l F.mesh i hi
  have w3 : IntKind.wrap .i64 ((0 : Int) + 1) = 1 := by rw [q0f (by omega) (by omega)]; rfl
  have w4 : IntKind.wrap .i64 ((1 : Int) + 1) = 2 := by rw [q0f (by omega) (by omega)]; rfl
  have n2 : ((2 : Nat) : Int) = 2 := Eq.trans rfl rfl
  have n1 : ((1 : Nat) : Int) = 1 := Eq.trans rfl rfl
  have n0 : ((0 : Nat) : Int) = 0 := Eq.trans rfl rfl
  unfold jmp
  simp (disch := omega) only [eN, nI, qa2, nth0, qoq, qt9]
  unfold nb
  by_cases h0 : 0 < i
  · have e1 := qdh (k + 2) (by omega) r z1 z2 z3 z4 l m t b F (i - 1) (by omega)
    rw [if_pos h0, if_pos h0]
    by_cases h1 : i + 1 < l.length
    · have e2 := qdh (k + 2) (by omega) r z1 z2 z3 z4 l m t b F (i + 1) (by omega)
      rw [if_pos h1, if_pos h1]
      have f0 := fun y => qpj (k + 3) (k + 3 - 1) [] (i : Int) y 2 0 z1 l z2 m z3 t z4 b r false [((i - 1 : Nat) : Int), ((i + 1 : Nat) : Int)]
      have f1 := fun y => qpj (k + 3) (k + 3 - 2) [] (i : Int) y 2 1 z1 l z2 m z3 t z4 b r false [((i - 1 : Nat) : Int), ((i + 1 : Nat) : Int)]
      have f2 := fun y => qpj (k + 3) (k + 3 - 3) [] (i : Int) y 2 2 z1 l z2 m z3 t z4 b r false [((i - 1 : Nat) : Int), ((i + 1 : Nat) : Int)]
      rw [show k + 3 - 1 + 1 = k + 3 by omega] at f0
      rw [show k + 3 - 2 + 1 = k + 3 - 1 by omega] at f1
      rw [show k + 3 - 3 + 1 = k + 3 - 2 by omega] at f2
      simp (disch := omega) only [dF, dT, nI, len2, Bool.and_false, imax, q0f, qhl] at f2
      simp (disch := omega) only [dT, nI, len2, Bool.and_true, e0, ton1, gd1, e2, imax, w4, f2, qa2, nth0, qzo, q0f, qcf, qn7, qhn] at f1
      simp (disch := omega) only [dT, nI, len2, Bool.and_true, e0, ton0, gd0, e1, imax, w3, f1, qa2, nth0, qzo, q0f, qcf, qn7, qhn] at f0
      rw [len2, n2, f0, show ∀ x y : Int, 0 ≤ x → max y (max x 0) = max x y from fun x y h => by omega]
      exact g1
    · rw [if_neg h1, if_neg h1]
      have f0 := fun y => qpj (k + 3) (k + 3 - 1) [] (i : Int) y 1 0 z1 l z2 m z3 t z4 b r false [((i - 1 : Nat) : Int)]
      have f1 := fun y => qpj (k + 3) (k + 3 - 2) [] (i : Int) y 1 1 z1 l z2 m z3 t z4 b r false [((i - 1 : Nat) : Int)]
      rw [show k + 3 - 1 + 1 = k + 3 by omega] at f0
      rw [show k + 3 - 2 + 1 = k + 3 - 1 by omega] at f1
      simp (disch := omega) only [dF, dT, nI, len1, Bool.and_false, imax, q0f, qhl] at f1
      simp (disch := omega) only [dT, nI, len1, Bool.and_true, e0, ton0, gdo, e1, imax, w3, f1, qa2, nth0, qzo, q0f, qcf, qn7, qhn] at f0
      rw [len1, n1, f0]
  · rw [if_neg h0, if_neg h0]
    by_cases h1 : i + 1 < l.length
    · have e2 := qdh (k + 2) (by omega) r z1 z2 z3 z4 l m t b F (i + 1) (by omega)
      rw [if_pos h1, if_pos h1]
      have f0 := fun y => qpj (k + 3) (k + 3 - 1) [] (i : Int) y 1 0 z1 l z2 m z3 t z4 b r false [((i + 1 : Nat) : Int)]
      have f1 := fun y => qpj (k + 3) (k + 3 - 2) [] (i : Int) y 1 1 z1 l z2 m z3 t z4 b r false [((i + 1 : Nat) : Int)]
      rw [show k + 3 - 1 + 1 = k + 3 by omega] at f0
      rw [show k + 3 - 2 + 1 = k + 3 - 1 by omega] at f1
      simp (disch := omega) only [dF, dT, nI, len1, Bool.and_false, imax, q0f, qhl] at f1
      simp (disch := omega) only [dT, nI, len1, Bool.and_true, e0, ton0, gdo, e2, imax, w3, f1, qa2, nth0, qzo, q0f, qcf, qn7, qhn] at f0
      rw [len1, n1, f0, show ∀ x : Int, max x 0 = max 0 x from fun x => by omega]
    · rw [if_neg h1, if_neg h1]
      have f0 := fun y => qpj (k + 3) (k + 3 - 1) [] (i : Int) y 0 0 z1 l z2 m z3 t z4 b r false []
      rw [show k + 3 - 1 + 1 = k + 3 by omega] at f0
      simp (disch := omega) only [dF, dT, nI, len0, Bool.and_false, imax, q0f, qhl] at f0
      rw [len0, n0, f0]
      rfl
def wsh (l : List Cell) (m b : List Int) (hi lo : Int) (i : Nat) : Int := if hi < jmp l m b i ∧ qq8 l i < 4 then 1 else if jmp l m b i < lo ∧ 0 < qq8 l i then -1 else 0
theorem qzd (n : Nat) (g : Nat → Int) : tab (n + 1) g = tab n g ++ [g n] := by
  unfold tab; rw [List.range_succ, List.map_append]; rfl
theorem qo1 {r : Int} {l : List Cell} {m t b : List Int} (F : StF r l m t b) (i : Nat) : 0 ≤ jmp l m b i ∧ jmp l m b i ≤ 161000000 := by
  have s0 := qy5 F i; have s1 := qy5 F (i - 1); have s2 := qy5 F (i + 1)
  unfold jmp gap
  by_cases h0 : 0 < i
  · rw [if_pos h0]
    by_cases h1 : i + 1 < l.length
    · rw [if_pos h1]; omega
    · rw [if_neg h1]; omega
  · rw [if_neg h0]
    by_cases h1 : i + 1 < l.length
    · rw [if_pos h1]; omega
    · rw [if_neg h1]; omega
theorem qs2 (k : Nat) (hk : 2000000 ≤ k) (fu : List (Nat × Nat)) (hi lo r : Int) (z1 z2 z3 z4 : Bool) (l : List Cell) (m t b : List Int) (F : StF r l m t b) : ∀ (N i : Nat), i ≤ l.length → l.length - i < N →
    lp (k + 2) spec_l16Wishes [] fu 3 (N) (qxp hi lo (i : Int) z1 l z2 m z3 t z4 b r false (tab i (wsh l m b hi lo))) = some [.arr true false (.ints .i64 (tab l.length (wsh l m b hi lo)))]
  | 0, i, hl, hN => by omega
  | N + 1, i, hl, hN => by
    rw [qqx]
    have L := F.len; have ml := F.ml
    by_cases g : i < l.length
    · have IH := qs2 k hk fu hi lo r z1 z2 z3 z4 l m t b F N (i + 1) (by omega) (by omega)
      have eJ := qge k (by omega) r z1 z2 z3 z4 l m t b F i g
      have la : ∀ x : Int, (tab i (wsh l m b hi lo) ++ [x]).length = i + 1 := fun x => by rw [List.length_append, qza]; rfl
      rw [qzd] at IH
      have jb := qo1 F i
      simp only [wsh, qq8] at IH
      by_cases h1 : hi < jmp l m b i
      · by_cases h2 : (l.getD i zz3).2.1 < 4
        · rw [if_pos ⟨h1, h2⟩] at IH; simp (disch := omega) only [nI, dT, eJ, Bool.and_true, Int.toNat_natCast, la, big0, qgr, q0f, dF, Bool.and_false, IH, qhn, qa2, nth0, qzo]
        · rw [if_neg (fun h => h2 h.2)] at IH
          by_cases h3 : jmp l m b i < lo
          · have h4 : 0 < (l.getD i zz3).2.1 := by omega
            rw [if_pos ⟨h3, h4⟩] at IH; simp (disch := omega) only [nI, dT, eJ, Bool.and_true, Int.toNat_natCast, dF, la, big0, qgr, q0f, Bool.and_false, qhn, IH, qhl, qa2, nth0, qzo]
          · rw [if_neg (fun h => h3 h.1)] at IH; simp (disch := omega) only [nI, dT, eJ, Bool.and_true, Int.toNat_natCast, dF, la, big0, qgr, q0f, Bool.and_false, qhn, IH, qhl, qa2, nth0, qzo]
      · rw [if_neg (fun h => h1 h.1)] at IH
        by_cases h3 : jmp l m b i < lo
        · by_cases h4 : 0 < (l.getD i zz3).2.1
          · rw [if_pos ⟨h3, h4⟩] at IH; simp (disch := omega) only [nI, dT, eJ, Bool.and_true, Int.toNat_natCast, la, big0, qgr, q0f, dF, Bool.and_false, qhn, IH, qa2, nth0, qzo, qhl]
          · rw [if_neg (fun h => h4 h.2)] at IH; simp (disch := omega) only [nI, dT, eJ, Bool.and_true, Int.toNat_natCast, la, big0, qgr, q0f, dF, Bool.and_false, qhn, IH, qhl, qa2, nth0, qzo]
        · rw [if_neg (fun h => h3 h.1)] at IH; simp (disch := omega) only [nI, dT, eJ, Bool.and_true, Int.toNat_natCast, la, big0, qgr, q0f, dF, Bool.and_false, qhn, IH, qa2, nth0, qzo, qhl]
    · simp (disch := omega) only [nI, dF, dT, Bool.and_false, Int.toNat_natCast, big0, qgr, q0f, Bool.false_and, qhl]
      rw [show i = l.length by omega]
theorem qru (k : Nat) (hk : 2000000 ≤ k) (fu : List (Nat × Nat)) (hi lo r : Int) (z1 z2 z3 z4 : Bool) (l : List Cell) (m t b : List Int) (F : StF r l m t b) : ∀ (N i : Nat), i ≤ l.length → l.length - i < N →
    lp (k + 8) impl_Wishes [] fu 5 (N) (qwj hi lo (l.length : Int) (i : Int) z1 l z2 m z3 t z4 b r false (tab i (wsh l m b hi lo))) = some [.arr true false (.ints .i64 (tab l.length (wsh l m b hi lo)))]
  | 0, i, hl, hN => by omega
  | N + 1, i, hl, hN => by
    rw [qpr]
    have L := F.len; have ml := F.ml
    by_cases g : i < l.length
    · have IH := qru k hk fu hi lo r z1 z2 z3 z4 l m t b F N (i + 1) (by omega) (by omega)
      have eJ := qc1 (k + 4) (by omega) r z1 z2 z3 z4 l m t b F i g
      have la : ∀ x : Int, (tab i (wsh l m b hi lo) ++ [x]).length = i + 1 := fun x => by rw [List.length_append, qza]; rfl
      rw [qzd] at IH
      have jb := qo1 F i
      simp only [wsh, qq8] at IH
      by_cases h1 : hi < jmp l m b i
      · by_cases h2 : (l.getD i zz3).2.1 < 4
        · rw [if_pos ⟨h1, h2⟩] at IH; simp (disch := omega) only [dT, nI, Bool.and_true, eJ, Int.toNat_natCast, la, big0, qgr, q0f, dF, Bool.and_false, IH, qhn, qa2, nth0, qzo]
        · rw [if_neg (fun h => h2 h.2)] at IH
          by_cases h3 : jmp l m b i < lo
          · have h4 : 0 < (l.getD i zz3).2.1 := by omega
            rw [if_pos ⟨h3, h4⟩] at IH; simp (disch := omega) only [dT, nI, Bool.and_true, eJ, Int.toNat_natCast, dF, la, big0, qgr, q0f, Bool.and_false, qhn, IH, qhl, qa2, nth0, qzo]
          · rw [if_neg (fun h => h3 h.1)] at IH; simp (disch := omega) only [dT, nI, Bool.and_true, eJ, Int.toNat_natCast, dF, la, big0, qgr, q0f, Bool.and_false, qhn, IH, qhl, qa2, nth0, qzo]
      · rw [if_neg (fun h => h1 h.1)] at IH
        by_cases h3 : jmp l m b i < lo
        · by_cases h4 : 0 < (l.getD i zz3).2.1
          · rw [if_pos ⟨h3, h4⟩] at IH; simp (disch := omega) only [dT, nI, Bool.and_true, eJ, Int.toNat_natCast, la, big0, qgr, q0f, dF, Bool.and_false, qhn, IH, qa2, nth0, qzo, qhl]
          · rw [if_neg (fun h => h4 h.2)] at IH; simp (disch := omega) only [dT, nI, Bool.and_true, eJ, Int.toNat_natCast, la, big0, qgr, q0f, dF, Bool.and_false, qhn, IH, qhl, qa2, nth0, qzo]
        · rw [if_neg (fun h => h3 h.1)] at IH; simp (disch := omega) only [dT, nI, Bool.and_true, eJ, Int.toNat_natCast, la, big0, qgr, q0f, dF, Bool.and_false, qhn, IH, qa2, nth0, qzo, qhl]
    · simp (disch := omega) only [dF, dT, nI, Bool.and_false, Int.toNat_natCast, big0, qgr, q0f, Bool.false_and, qhl]
      rw [show i = l.length by omega]
theorem qfp (k : Nat) (hk : 2000000 ≤ k) (hi lo r : Int) (z1 z2 z3 z4 : Bool) (l : List Cell) (m t b : List Int) (F : StF r l m t b) :
    go (k + 3) spec_l16Wishes [.agg [.int .i64 (r), .arr false (z1) (.r3 (l)), .arr false (z2) (.ints .i64 (m)), .arr false (z3) (.ints .i64 (t)), .arr false (z4) (.ints .i64 (b))], .int .i64 hi, .int .i64 lo] = some [.arr true false (.ints .i64 (tab l.length (wsh l m b hi lo)))] := by
  rw [qnk]
  have L := F.len
  exact qs2 k hk [] hi lo r z1 z2 z3 z4 l m t b F _ 0 (by omega) (by omega)
theorem qcc (k : Nat) (hk : 2000000 ≤ k) (hi lo r : Int) (z1 z2 z3 z4 : Bool) (l : List Cell) (m t b : List Int) (F : StF r l m t b) :
    go (k + 9) impl_Wishes [.agg [.int .i64 (r), .arr false (z1) (.r3 (l)), .arr false (z2) (.ints .i64 (m)), .arr false (z3) (.ints .i64 (t)), .arr false (z4) (.ints .i64 (b))], .int .i64 hi, .int .i64 lo] = some [.arr true false (.ints .i64 (tab l.length (wsh l m b hi lo)))] := by
  rw [qjz]
  have L := F.len; have ml := F.ml; have bl := F.bl; have rr := F.rr
  have g := stF.2 F
  simp (disch := omega) only [qb8, g, bit, nI, qa2, nth0, qzn, Bool.not_true, qhl]
  exact qru k hk [] hi lo r z1 z2 z3 z4 l m t b F _ 0 (by omega) (by omega)
end Go.Proofs.YtoldpdhhfmlckaaGreat
end
section
namespace Go.Proofs.YtoldpdhhfmlckaaGreat
open Go.Ev
set_option maxRecDepth 20000
def qrc (x : Cell) : List Cell → Nat → Int
  | [], _ => -1
  | y :: r, i => if y = x then (i : Int) else qrc x r (i + 1)
def lof (l : List Cell) (x : Cell) : Int := qrc x l 0
theorem qss (k : Nat) (hk : 2000000 ≤ k) (fu : List (Nat × Nat)) (r : Int) (z : Bool) (l : List Cell) (x : Cell) (hl : l.length ≤ 1048576) : ∀ (N i : Nat), i ≤ l.length → l.length - i < N →
    lp k spec_LeafOf [] fu 2 (N) (qw8 (i : Int) z l r x.1 x.2.1 x.2.2) = some [.int .i64 (qrc x (l.drop i) i)]
  | 0, i, hi, hN => by omega
  | N + 1, i, hi, hN => by
    rw [qqg]
    by_cases g : i < l.length
    · have IH := qss k hk fu r z l x hl N (i + 1) (by omega) (by omega)
      rw [qh2 g zz3, qrc]
      by_cases h : l.getD i zz3 = x
      · rw [if_pos h]; simp (disch := omega) only [nI, dT, Bool.and_true, Int.toNat_natCast, h, dTT, qgr, q0f, qhn]
      · rw [if_neg h]
        have : (decide ((l.getD i zz3).1 = x.1) && (decide ((l.getD i zz3).2.1 = x.2.1) && decide ((l.getD i zz3).2.2 = x.2.2))) = false := by
          rw [← Bool.not_eq_true]
          intro e
          simp only [Bool.and_eq_true, decide_eq_true_eq] at e
          exact h (Prod.ext e.1 (Prod.ext e.2.1 e.2.2))
        simp (disch := omega) only [nI, dT, Bool.and_true, Int.toNat_natCast, this, qgr, q0f, IH, qhl, qhn]
    · rw [List.drop_of_length_le (by omega)]; simp (disch := omega) only [nI, dF, dT, Bool.and_false, Int.toNat_natCast, Bool.and_true, qgr, q0f, qhl]; rfl
theorem qfb (k : Nat) (hk : 2000000 ≤ k) (r : Int) (z : Bool) (l : List Cell) (x : Cell) (hl : l.length ≤ 1048576) : go (k + 1) spec_LeafOf [.agg [.int .i64 r, .arr false z (.r3 l)], .agg [.int .i64 x.1, .int .i64 x.2.1, .int .i64 x.2.2]] = some [.int .i64 (lof l x)] := by
  rw [qme]
  exact qss k hk [] r z l x hl _ 0 (by omega) (by omega)
theorem qrd (x : Cell) : ∀ (l : List Cell) (i : Nat), (qrc x l i = -1 ∧ x ∉ l) ∨ ∃ j, j < l.length ∧ qrc x l i = ((i + j : Nat) : Int) ∧ l.getD j zz3 = x
  | [], i => Or.inl ⟨rfl, by simp⟩
  | y :: r, i => by
    unfold qrc
    by_cases h : y = x
    · rw [if_pos h]; exact Or.inr ⟨0, by simp, by simp, by simpa using h⟩
    · rw [if_neg h]
      rcases qrd x r (i + 1) with ⟨e, n⟩ | ⟨j, hj, e, n⟩
      · exact Or.inl ⟨e, by simp only [List.mem_cons, not_or]; exact ⟨fun e => h e.symm, n⟩⟩
      · exact Or.inr ⟨j + 1, by simp; omega, by rw [e]; congr 1; omega, by simpa using n⟩
theorem qre (l : List Cell) (x : Cell) : (lof l x = -1 ∧ x ∉ l) ∨ ∃ j, j < l.length ∧ lof l x = (j : Int) ∧ l.getD j zz3 = x := by
  rcases qrd x l 0 with h | ⟨j, hj, e, n⟩
  · exact Or.inl h
  · exact Or.inr ⟨j, hj, by unfold lof; rw [e, Nat.zero_add], n⟩
theorem que : ∀ (l : List Cell) (p : Int), okp p l = true → ∀ x ∈ l, p ≤ qyq x.1 x.2.1 x.2.2
  | [], p, h, x, hx => by cases hx
  | y :: l, p, h, x, hx => by
    rw [qud] at h
    rcases List.mem_cons.1 hx with rfl | hx
    · omega
    · have := que l _ h.2.2 x hx
      have := qz9 y.2.1
      omega
theorem q0c {x : Cell} (h : idOk x.1 x.2.1 x.2.2 = true) : 1 ≤ qz7 x.2.1 := by
  rcases lev (qoo.2 (qol.1 h).2.1) with e | e | e | e | e <;> rw [e] <;> decide
theorem quf : ∀ (l : List Cell) (p : Int), okp p l = true → ∀ i j, i < l.length → j < l.length → l.getD i zz3 = l.getD j zz3 → i = j
  | [], p, h, i, j, hi, hj, e => by simp at hi
  | y :: l, p, h, 0, 0, hi, hj, e => rfl
  | y :: l, p, h, 0, j + 1, hi, hj, e => by
    rw [qud] at h
    have hj' : j < l.length := by simpa using hj
    have := que l _ h.2.2 _ (qoa hj' zz3)
    have w := q0c h.1
    simp only [List.getD_cons_zero, List.getD_cons_succ] at e
    rw [← e, h.2.1] at this
    omega
  | y :: l, p, h, i + 1, 0, hi, hj, e => by
    rw [qud] at h
    have hi' : i < l.length := by simpa using hi
    have := que l _ h.2.2 _ (qoa hi' zz3)
    have w := q0c h.1
    simp only [List.getD_cons_zero, List.getD_cons_succ] at e
    rw [e, h.2.1] at this
    omega
  | y :: l, p, h, i + 1, j + 1, hi, hj, e => by
    rw [qud] at h
    have := quf l _ h.2.2 i j (by simpa using hi) (by simpa using hj) (by simpa using e)
    omega
def Pw (w : List Int) (l0 : List Cell) (x : Cell) : Bool := decide (0 ≤ lof l0 x) && decide (w.getD (lof l0 x).toNat 0 = -1)
theorem qaf {w : List Int} {l0 : List Cell} {p : Int} (h : okp p l0 = true) (x : Cell) : Pw w l0 x = true ↔ ∃ j, j < l0.length ∧ w.getD j 0 = -1 ∧ l0.getD j zz3 = x := by
  unfold Pw
  rw [Bool.and_eq_true, decide_eq_true_eq, decide_eq_true_eq]
  rcases qre l0 x with ⟨e, n⟩ | ⟨j, hj, e, n⟩
  · rw [e]
    refine ⟨fun h => by omega, fun ⟨j, hj, _, hx⟩ => absurd (hx ▸ qoa hj zz3) n⟩
  · rw [e, Int.toNat_natCast]
    refine ⟨fun h => ⟨j, hj, h.2, n⟩, fun ⟨q, hq, hw, hx⟩ => ⟨by omega, ?_⟩⟩
    have := quf l0 p h q j hq hj (by rw [hx, n])
    rw [← this]; exact hw
def ks (w : List Int) (l0 : List Cell) : Nat → List Cell → List Cell
  | 0, acc => acc
  | n + 1, acc => ks w l0 n (if w.getD n 0 = 1 then acc else if w.getD n 0 = -1 then acc ++ [l0.getD n zz3] else acc)
theorem qo4 (w : List Int) (l0 : List Cell) (x : Cell) : ∀ (n : Nat) (acc : List Cell), x ∈ ks w l0 n acc ↔ x ∈ acc ∨ ∃ j, j < n ∧ w.getD j 0 = -1 ∧ l0.getD j zz3 = x
  | 0, acc => ⟨Or.inl, fun h => h.elim id fun ⟨j, hj, _⟩ => by omega⟩
  | n + 1, acc => by
    rw [ks, qo4 w l0 x n]
    by_cases h1 : w.getD n 0 = 1
    · rw [if_pos h1]
      refine ⟨fun h => h.imp id fun ⟨j, hj, e⟩ => ⟨j, by omega, e⟩, fun h => h.imp id fun ⟨j, hj, e, e'⟩ => ⟨j, ?_, e, e'⟩⟩
      by_cases hjn : j = n
      · subst hjn; omega
      · omega
    · rw [if_neg h1]
      by_cases h2 : w.getD n 0 = -1
      · rw [if_pos h2, List.mem_append, List.mem_singleton]
        refine ⟨fun h => ?_, fun h => ?_⟩
        · rcases h with (h | h) | ⟨j, hj, e⟩
          · exact Or.inl h
          · exact Or.inr ⟨n, by omega, h2, h.symm⟩
          · exact Or.inr ⟨j, by omega, e⟩
        · rcases h with h | ⟨j, hj, e, e'⟩
          · exact Or.inl (Or.inl h)
          · by_cases hjn : j = n
            · subst hjn; exact Or.inl (Or.inr e'.symm)
            · exact Or.inr ⟨j, by omega, e, e'⟩
      · rw [if_neg h2]
        refine ⟨fun h => h.imp id fun ⟨j, hj, e⟩ => ⟨j, by omega, e⟩, fun h => h.imp id fun ⟨j, hj, e, e'⟩ => ⟨j, ?_, e, e'⟩⟩
        by_cases hjn : j = n
        · subst hjn; exact absurd e h2
        · omega
theorem qoi (l : List Cell) (x : Cell) : hasK l x = true ↔ x ∈ l := by
  unfold hasK
  rw [List.any_eq_true]
  refine ⟨fun ⟨y, hy, e⟩ => ?_, fun h => ⟨x, h, by simp [eqK]⟩⟩
  have : x = y := by
    simp only [eqK, Bool.and_eq_true, beq_iff_eq, decide_eq_true_eq] at e
    exact Prod.ext e.1 (Prod.ext e.2.1 e.2.2)
  rw [this]; exact hy
theorem qoh {w : List Int} {l0 : List Cell} {p : Int} (h : okp p l0 = true) (x : Cell) : hasK (ks w l0 l0.length []) x = Pw w l0 x := by
  rw [Bool.eq_iff_iff, qoi, qo4, qaf h]
  simp
def adS (w : List Int) (s : S3) : S3 := mgS (Pw w s.1) 128 0 (lvS 128 (spS w s.1.length s))
set_option maxHeartbeats 1000000 in
theorem qs8 (k : Nat) (hk : 2000000 ≤ k) (fu : List (Nat × Nat)) (z1 z2 z3 z4 : Bool) (l0 : List Cell) (m0 t0 b0 : List Int) (r0 : Int) (q1 : Bool) (p1 : List Cell) (q2 : Bool) (p2 : List Int) (q3 : Bool) (p3 : List Int) (q4 : Bool) (p4 : List Int) (x18 : Int) (zw : Bool) (w : List Int) (r : Int) (b : List Int) (hl0 : l0.length ≤ 128) (hw : w.length = l0.length) : ∀ (F N i : Nat) (s : S3), s.1.length - i ≤ F → F < N → i + F ≤ 4096 → StU r s b →
    lp (k + 6) spec_l17Adapt [] fu 10 (N) (qxq (i : Int) z1 l0 z2 m0 z3 t0 z4 b0 r0 q1 p1 q2 p2 q3 p3 q4 p4 x18 zw w false s.1 false s.2.1 false s.2.2 false b r) = some [.agg [.int .i64 (r), .arr true (false) (.r3 ((mgS (Pw w l0) F i s).1)), .arr true (false) (.ints .i64 ((mgS (Pw w l0) F i s).2.1)), .arr true (false) (.ints .i64 ((mgS (Pw w l0) F i s).2.2)), .arr true (false) (.ints .i64 (b))]]
  | F, 0, i, s, hF, hN, hi, U => by omega
  | 0, N + 1, i, s, hF, hN, hi, U => by
    rw [qqy]
    have L := U.len; have ml := U.ml; have tl := U.tl
    simp (disch := omega) only [qgr, q0f, nI, dF, dT, Bool.and_false, Int.toNat_natCast, bit, qhl]; rfl
  | F + 1, N + 1, i, s, hF, hN, hi, U => by
    rw [qqy]
    have L := U.len; have ml := U.ml; have tl := U.tl
    unfold mgS
    by_cases g : i + 1 < s.1.length
    · rw [if_pos g]
      have IH0 := qs8 k hk fu z1 z2 z3 z4 l0 m0 t0 b0 r0 q1 p1 q2 p2 q3 p3 q4 p4 x18 zw w r b hl0 hw F N (i + 1) s (by omega) (by omega) (by omega) U
      have eX := qfb (k + 5) (by omega) r0 z1 l0 (s.1.getD i zz3) (by omega)
      have eY := qfb (k + 5) (by omega) r0 z1 l0 (s.1.getD (i + 1) zz3) (by omega)
      have eM := qf1 (k + 2) (by omega) r false s.1 U.mesh i g
      rcases qre l0 (s.1.getD i zz3) with ⟨ex, _⟩ | ⟨j, hj, ex, _⟩
      · have pX : Pw w l0 (s.1.getD i zz3) = false := by unfold Pw; rw [ex]; simp
        rw [ex] at eX
        rw [if_neg (by rw [pX]; simp)]
        simp (disch := omega) only [qgr, q0f, nI, dT, Bool.and_true, Int.toNat_natCast, eX, eY, bit, IH0, qa2, nth0, qzo, qhn, dF, qhl]
      have pX : Pw w l0 (s.1.getD i zz3) = decide (w.getD j 0 = -1) := by unfold Pw; rw [ex]; simp
      rw [ex] at eX
      rcases qre l0 (s.1.getD (i + 1) zz3) with ⟨ey, _⟩ | ⟨q, hq, ey, _⟩
      · have pY : Pw w l0 (s.1.getD (i + 1) zz3) = false := by unfold Pw; rw [ey]; simp
        rw [ey] at eY
        rw [if_neg (by rw [pY]; simp)]
        simp (disch := omega) only [qgr, q0f, nI, dT, Bool.and_true, Int.toNat_natCast, eX, eY, bit, IH0, qa2, nth0, qzo, dF, qhl, qhn]
      have pY : Pw w l0 (s.1.getD (i + 1) zz3) = decide (w.getD q 0 = -1) := by unfold Pw; rw [ey]; simp
      rw [ey] at eY
      by_cases h1 : w.getD j 0 = -1
      · by_cases h2 : w.getD q 0 = -1
        · rw [dT h1] at pX
          rw [dT h2] at pY
          cases hm : mayC s.1 i
          · rw [if_neg (by rw [pX, pY]; simp)]
            simp (disch := omega) only [qgr, q0f, nI, dT, Bool.and_true, Int.toNat_natCast, eX, eY, eM, hm, bit, IH0, qa2, nth0, qzn, qhl, qzo, h2, dTT, qhn, h1]
          · have hs := hm
            simp only [mayC, Bool.and_eq_true] at hs
            have sl := qya hs.1
            have U' := cm_U U g hs.1
            have ln := qtq g
            have IH1 := qs8 k hk fu z1 z2 z3 z4 l0 m0 t0 b0 r0 q1 p1 q2 p2 q3 p3 q4 p4 x18 zw w r b hl0 hw F N (i + 1) (cmS s i) (by show (qtp s.1 i).length - (i + 1) ≤ F; omega) (by omega) (by omega) U'
            have eG := qf5 (k + 1) (by omega) r s b U i g sl
            rw [if_pos (by rw [pX, pY]; simp)]
            simp (disch := omega) only [qgr, q0f, nI, dT, Bool.and_true, Int.toNat_natCast, eX, eY, eM, hm, bit, eG, qa2, nth0, qgu, qt9, quz, qg5, qoq, qg7, qg8, qgt, qzo, IH1, qzn, qhn, h2, dTT, h1]
        · rw [dF h2] at pY
          rw [if_neg (by rw [pY]; simp)]
          simp (disch := omega) only [qgr, q0f, nI, dT, Bool.and_true, Int.toNat_natCast, eX, eY, bit, IH0, qa2, nth0, qzo, h2, dFF, qhl, qhn, h1, dTT]
      · rw [dF h1] at pX
        rw [if_neg (by rw [pX]; simp)]
        simp (disch := omega) only [qgr, q0f, nI, dT, Bool.and_true, Int.toNat_natCast, eX, eY, bit, IH0, qa2, nth0, qzo, qhn, h1, dFF, qhl]
    · rw [if_neg g]; simp (disch := omega) only [qgr, q0f, nI, dF, dT, Bool.true_and, Int.toNat_natCast, Bool.and_false, bit, qhl]
theorem qtb (k : Nat) (hk : 2000000 ≤ k) (fu : List (Nat × Nat)) (z1 z2 z3 z4 : Bool) (l0 : List Cell) (m0 t0 b0 : List Int) (r0 : Int) (q1 : Bool) (p1 : List Cell) (q2 : Bool) (p2 : List Int) (q3 : Bool) (p3 : List Int) (q4 : Bool) (p4 : List Int) (x18 : Int) (zw : Bool) (w : List Int) (r : Int) (b : List Int) (hl0 : l0.length ≤ 128) (hw : w.length = l0.length) (hw1 : ∀ j, w.getD j 0 = 1 → qq8 l0 j < 4) : ∀ (N n : Nat) (s : S3), n < N → n ≤ l0.length → n ≤ s.1.length → (∀ j, j < n → s.1.getD j zz3 = l0.getD j zz3) → StU r s b →
    lp (k + 6) spec_l17Adapt [] fu 4 (N) (qxr ((n : Int) - 1) z1 l0 z2 m0 z3 t0 z4 b0 r0 q1 p1 q2 p2 q3 p3 q4 p4 x18 zw w false s.1 false s.2.1 false s.2.2 false b r) = some [.agg [.int .i64 (r), .arr true (false) (.r3 ((mgS (Pw w l0) 128 0 (lvS 128 (spS w n s))).1)), .arr true (false) (.ints .i64 ((mgS (Pw w l0) 128 0 (lvS 128 (spS w n s))).2.1)), .arr true (false) (.ints .i64 ((mgS (Pw w l0) 128 0 (lvS 128 (spS w n s))).2.2)), .arr true (false) (.ints .i64 (b))]]
  | 0, n, s, hN, hn, hs, he, U => by omega
  | N + 1, 0, s, hN, hn, hs, he, U => by
    rw [qqz]
    have L := U.len
    have eL := qgm k (by omega) r s b U
    have U' := (qrf 128 s U (by omega)).1
    have L' := U'.len
    have e := qs8 k hk fu z1 z2 z3 z4 l0 m0 t0 b0 r0 q1 p1 q2 p2 q3 p3 q4 p4 x18 zw w r b hl0 hw 128 (k + 6) 0 (lvS 128 s) (by omega) (by omega) (by omega) U'
    rw [show ((0 : Nat) : Int) = 0 from rfl] at e ⊢
    simp (disch := omega) only [dF, nI, dT, Bool.and_true, q0f, qhl, eL, qa2, nth0, qgu, qt9, quz, qg5, qoq, qg7, qg8, qgt, qzo, e]
    rfl
  | N + 1, n + 1, s, hN, hn, hs, he, U => by
    rw [show ((n + 1 : Nat) : Int) - 1 = (n : Int) by omega, qqz]
    have L := U.len
    unfold spS
    by_cases h1 : w.getD n 0 = 1
    · rw [if_pos h1]
      have hl : qq8 s.1 n < 4 := by have := hw1 n h1; unfold qq8 at *; rw [he n (by omega)]; exact this
      have U' := rf_U U (show n < s.1.length by omega) hl
      have ln := qyi (show n < s.1.length by omega)
      have IH := qtb k hk fu z1 z2 z3 z4 l0 m0 t0 b0 r0 q1 p1 q2 p2 q3 p3 q4 p4 x18 zw w r b hl0 hw hw1 N n (rfS s n) (by omega) (by omega) (by show n ≤ (qyh s.1 n).length; omega) (fun j hj => by
        show (qyh s.1 n).getD j zz3 = _
        rw [qyj (by omega) hj]; exact he j (by omega)) U'
      have eS := qf6 (k + 1) (by omega) r s b U n (by omega) hl
      simp (disch := omega) only [dT, nI, Bool.and_true, Int.toNat_natCast, h1, dTT, eS, q0f, qa2, nth0, qgu, qt9, quz, qg5, qoq, qg7, qg8, qgt, qzo, IH, qhn]
    · rw [if_neg h1]
      have IH := qtb k hk fu z1 z2 z3 z4 l0 m0 t0 b0 r0 q1 p1 q2 p2 q3 p3 q4 p4 x18 zw w r b hl0 hw hw1 N n s (by omega) (by omega) (by omega) (fun j hj => he j (by omega)) U
      simp (disch := omega) only [dT, nI, Bool.and_true, Int.toNat_natCast, dF, q0f, IH, qhl, qhn]
theorem q0h {l : List Cell} {m b : List Int} {hi lo : Int} (j : Nat) (h : (tab l.length (wsh l m b hi lo)).getD j 0 = 1) : qq8 l j < 4 := by
  by_cases hj : j < l.length
  · rw [qy9 hj] at h
    unfold wsh at h
    by_cases c : hi < jmp l m b j ∧ qq8 l j < 4
    · exact c.2
    · rw [if_neg c] at h
      split at h <;> omega
  · rw [qn9 (by rw [qza]; omega)] at h; omega
theorem qgf (k : Nat) (hk : 2000000 ≤ k) (r : Int) (l : List Cell) (m t b : List Int) (F : StF r l m t b) (hi lo : Int) :
    go (k + 7) spec_l17Adapt [.agg [.int .i64 (r), .arr false (false) (.r3 (l)), .arr false (false) (.ints .i64 (m)), .arr false (false) (.ints .i64 (t)), .arr false (false) (.ints .i64 (b))], .int .i64 hi, .int .i64 lo] = some [.agg [.int .i64 (r), .arr true (false) (.r3 ((adS (tab l.length (wsh l m b hi lo)) (l, m, t)).1)), .arr true (false) (.ints .i64 ((adS (tab l.length (wsh l m b hi lo)) (l, m, t)).2.1)), .arr true (false) (.ints .i64 ((adS (tab l.length (wsh l m b hi lo)) (l, m, t)).2.2)), .arr true (false) (.ints .i64 (b))]] := by
  rw [qnl]
  have L := F.len; have ml := F.ml; have tl := F.tl; have bl := F.bl; have rr := F.rr
  have eW := qfp (k + 3) (by omega) hi lo r false false false false l m t b F
  simp (disch := omega) only [eW, qf3, nI, qa2, nth0, qgu, qt9, quz, qg5, qoq, qg7, qg8, qgt, qzo, qza, q0f]
  exact qtb k hk [] false false false false l m t b r true [] true [] true [] true [] 0 false _ r b (by omega) (qza _ _) q0h (k + 6) l.length (l, m, t) (by omega) (by omega) (by show l.length ≤ l.length; omega) (fun j hj => rfl) F.toU
set_option maxHeartbeats 1000000 in
theorem qrz (k : Nat) (hk : 2000000 ≤ k) (fu : List (Nat × Nat)) (w0 : Int) (v1 : Bool) (w1 : List Cell) (v2 : Bool) (w2 : List Int) (v3 : Bool) (w3 : List Int) (v4 : Bool) (w4 : List Int) (r : Int) (b : List Int) (K : List Cell) (P : Cell → Bool) (hP : ∀ x, hasK K x = P x) : ∀ (F N i : Nat) (s : S3), s.1.length - i ≤ F → F < N → i + F ≤ 4096 → StU r s b →
    lp (k + 9) impl_State_adapt [.ptr true [.int .i64 w0, .arr true v1 (.r3 w1), .arr true v2 (.ints .i64 w2), .arr true v3 (.ints .i64 w3), .arr true v4 (.ints .i64 w4)]] fu 12 N (qv6 (i : Int) false s.1 false s.2.1 false s.2.2 false b r K) = some [.ptr true [.int .i64 (r), .arr true (false) (.r3 ((mgS P F i s).1)), .arr true (false) (.ints .i64 ((mgS P F i s).2.1)), .arr true (false) (.ints .i64 ((mgS P F i s).2.2)), .arr true (false) (.ints .i64 (b))]]
  | F, 0, i, s, hF, hN, hi, U => by omega
  | 0, N + 1, i, s, hF, hN, hi, U => by
    rw [qpe]
    have L := U.len
    simp (disch := omega) only [qgr, q0f, nI, dF, dT, Bool.and_false, Int.toNat_natCast, bit, qhl]; rfl
  | F + 1, N + 1, i, s, hF, hN, hi, U => by
    rw [qpe]
    have L := U.len; have ml := U.ml; have tl := U.tl
    unfold mgS
    by_cases g : i + 1 < s.1.length
    · rw [if_pos g]
      have IH0 := qrz k hk fu w0 v1 w1 v2 w2 v3 w3 v4 w4 r b K P hP F N (i + 1) s (by omega) (by omega) (by omega) U
      have eM := qc4 (k + 3) (by omega) r false s.1 U.mesh i g
      have hx := hP (s.1.getD i zz3); have hy := hP (s.1.getD (i + 1) zz3)
      cases p1 : P (s.1.getD i zz3)
      · rw [p1] at hx
        rw [if_neg (by simp)]
        simp (disch := omega) only [qgr, q0f, nI, dT, Bool.and_true, Int.toNat_natCast, hx, bit, IH0, qhn, qhl]
      rw [p1] at hx
      cases p2 : P (s.1.getD (i + 1) zz3)
      · rw [p2] at hy
        rw [if_neg (by simp)]
        simp (disch := omega) only [qgr, q0f, nI, dT, Bool.and_true, Int.toNat_natCast, hx, hy, bit, IH0, qhl, qhn]
      rw [p2] at hy
      cases hm : mayC s.1 i
      · rw [if_neg (by simp)]
        simp (disch := omega) only [qgr, q0f, nI, dT, Bool.and_true, Int.toNat_natCast, hx, hy, eM, hm, bit, IH0, qa2, nth0, qzn, qhl, qhn]
      · have hs := hm
        simp only [mayC, Bool.and_eq_true] at hs
        have sl := qya hs.1
        have U' := cm_U U g hs.1
        have ln := qtq g
        have IH1 := qrz k hk fu w0 v1 w1 v2 w2 v3 w3 v4 w4 r b K P hP F N (i + 1) (cmS s i) (by show (qtp s.1 i).length - (i + 1) ≤ F; omega) (by omega) (by omega) U'
        have eG := qck (k + 3) (by omega) r s b U i g sl
        rw [if_pos (show (true && (true && true)) = true from rfl)]
        simp (disch := omega) only [qgr, q0f, nI, dT, Bool.and_true, Int.toNat_natCast, hx, hy, eM, hm, bit, eG, qa2, nth0, qux, qt9, quz, quy, qoq, qzr, qzs, quw, qzo, IH1, qzn, qhn]
    · rw [if_neg g]; simp (disch := omega) only [qgr, q0f, nI, dF, dT, Bool.true_and, Int.toNat_natCast, Bool.and_false, bit, qhl]
theorem qr3 (k : Nat) (hk : 2000000 ≤ k) (fu : List (Nat × Nat)) (w0 : Int) (v1 : Bool) (w1 : List Cell) (v2 : Bool) (w2 : List Int) (v3 : Bool) (w3 : List Int) (v4 : Bool) (w4 : List Int) (r : Int) (b : List Int) (l0 : List Cell) (zw : Bool) (w : List Int) (P : Cell → Bool) (hl0 : l0.length ≤ 128) (hw : w.length = l0.length) (hw1 : ∀ j, w.getD j 0 = 1 → qq8 l0 j < 4) : ∀ (N n : Nat) (s : S3) (acc : List Cell), n < N → n ≤ l0.length → n ≤ s.1.length → (∀ j, j < n → s.1.getD j zz3 = l0.getD j zz3) → StU r s b → (∀ x, hasK (ks w l0 n acc) x = P x) →
    lp (k + 9) impl_State_adapt [.ptr true [.int .i64 w0, .arr true v1 (.r3 w1), .arr true v2 (.ints .i64 w2), .arr true v3 (.ints .i64 w3), .arr true v4 (.ints .i64 w4)]] fu 3 N (qv7 ((n : Int) - 1) false s.1 false s.2.1 false s.2.2 false b r zw w acc) = some [.ptr true [.int .i64 (r), .arr true (false) (.r3 ((mgS P 128 0 (lvS 128 (spS w n s))).1)), .arr true (false) (.ints .i64 ((mgS P 128 0 (lvS 128 (spS w n s))).2.1)), .arr true (false) (.ints .i64 ((mgS P 128 0 (lvS 128 (spS w n s))).2.2)), .arr true (false) (.ints .i64 (b))]]
  | 0, n, s, acc, hN, hn, hs, he, U, hK => by omega
  | N + 1, 0, s, acc, hN, hn, hs, he, U, hK => by
    rw [qpf]
    have L := U.len
    have eL := qci (k + 5) (by omega) r s b U
    have U' := (qrf 128 s U (by omega)).1
    have L' := U'.len
    have e := qrz k hk fu w0 v1 w1 v2 w2 v3 w3 v4 w4 r b acc P hK 128 (k + 9) 0 (lvS 128 s) (by omega) (by omega) (by omega) U'
    rw [show ((0 : Nat) : Int) = 0 from rfl] at e ⊢
    simp (disch := omega) only [dF, nI, dT, Bool.and_true, q0f, qhl, eL, qa2, nth0, qux, qt9, quz, quy, qoq, qzr, qzs, quw, qzo, e]
    rfl
  | N + 1, n + 1, s, acc, hN, hn, hs, he, U, hK => by
    rw [show ((n + 1 : Nat) : Int) - 1 = (n : Int) by omega, qpf]
    have L := U.len
    unfold spS
    unfold ks at hK
    by_cases h1 : w.getD n 0 = 1
    · rw [if_pos h1]
      rw [if_pos h1] at hK
      have hl : qq8 s.1 n < 4 := by have := hw1 n h1; unfold qq8 at *; rw [he n (by omega)]; exact this
      have U' := rf_U U (show n < s.1.length by omega) hl
      have ln := qyi (show n < s.1.length by omega)
      have IH := qr3 k hk fu w0 v1 w1 v2 w2 v3 w3 v4 w4 r b l0 zw w P hl0 hw hw1 N n (rfS s n) acc (by omega) (by omega) (by show n ≤ (qyh s.1 n).length; omega) (fun j hj => by
        show (qyh s.1 n).getD j zz3 = _
        rw [qyj (by omega) hj]; exact he j (by omega)) U' hK
      have eS := qda (k + 6) (by omega) r s b U n (by omega) hl
      simp (disch := omega) only [dT, nI, Bool.and_true, Int.toNat_natCast, h1, dTT, eS, q0f, qa2, nth0, qux, qt9, quz, quy, qoq, qzr, qzs, quw, qzo, IH, dF, qhn, qhl]
    · rw [if_neg h1]
      rw [if_neg h1] at hK
      by_cases h2 : w.getD n 0 = -1
      · rw [if_pos h2] at hK
        have IH := qr3 k hk fu w0 v1 w1 v2 w2 v3 w3 v4 w4 r b l0 zw w P hl0 hw hw1 N n s _ (by omega) (by omega) (by omega) (fun j hj => he j (by omega)) U hK
        have hen := he n (by omega)
        simp (disch := omega) only [dT, nI, Bool.and_true, Int.toNat_natCast, h2, dF, q0f, dTT, hen, IH, qhn, qhl]
      · rw [if_neg h2] at hK
        have IH := qr3 k hk fu w0 v1 w1 v2 w2 v3 w3 v4 w4 r b l0 zw w P hl0 hw hw1 N n s acc (by omega) (by omega) (by omega) (fun j hj => he j (by omega)) U hK
        simp (disch := omega) only [dT, nI, Bool.and_true, Int.toNat_natCast, dF, q0f, qhn, IH, qhl]
theorem qch (k : Nat) (hk : 2000000 ≤ k) (r : Int) (l : List Cell) (m t b : List Int) (F : StF r l m t b) (hi lo : Int) :
    go (k + 10) impl_State_adapt [.ptr true [.int .i64 (r), .arr true (false) (.r3 (l)), .arr true (false) (.ints .i64 (m)), .arr true (false) (.ints .i64 (t)), .arr true (false) (.ints .i64 (b))], .int .i64 hi, .int .i64 lo] = some [.ptr true [.int .i64 (r), .arr true (false) (.r3 ((adS (tab l.length (wsh l m b hi lo)) (l, m, t)).1)), .arr true (false) (.ints .i64 ((adS (tab l.length (wsh l m b hi lo)) (l, m, t)).2.1)), .arr true (false) (.ints .i64 ((adS (tab l.length (wsh l m b hi lo)) (l, m, t)).2.2)), .arr true (false) (.ints .i64 (b))]] := by
  rw [qjc]
  have L := F.len; have ml := F.ml; have tl := F.tl; have bl := F.bl; have rr := F.rr
  have eW := qcc k (by omega) hi lo r false false false false l m t b F
  simp (disch := omega) only [eW, nI, qa2, nth0, qoq, qza, q0f, qt9]
  have hP := qoh (w := tab l.length (wsh l m b hi lo)) (qtv.1 F.mesh).1
  exact qr3 k hk [] _ _ _ _ _ _ _ _ _ r b l false _ _ (by omega) (qza _ _) q0h (k + 9) l.length (l, m, t) [] (by omega) (by omega) (by show l.length ≤ l.length; omega) (fun j hj => rfl) F.toU hP
theorem ad_U {r : Int} {l : List Cell} {m t b : List Int} (F : StF r l m t b) (hi lo : Int) : StF r (adS (tab l.length (wsh l m b hi lo)) (l, m, t)).1 (adS (tab l.length (wsh l m b hi lo)) (l, m, t)).2.1 (adS (tab l.length (wsh l m b hi lo)) (l, m, t)).2.2 b := by
  have U := qyf (tab l.length (wsh l m b hi lo)) l q0h l.length (l, m, t) F.toU (Nat.le_refl _) (fun j hj => rfl)
  have V := qrf 128 _ U (by have := U.len; omega)
  exact (qt1 _ 128 0 _ V.1).toF (qt3 _ 128 0 _ V.2)
end Go.Proofs.YtoldpdhhfmlckaaGreat
end
