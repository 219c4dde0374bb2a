/- Cones of influence: what lies in them; a tick reads no further. -/
import Derived.Test.YtaoffhlajfkccaaPR
import Derived.Test.YtaoffhlajfkccaaPT2
namespace Go.Proofs.Ytaoffhlajfkccaa
open Go.Ev
set_option linter.unusedVariables false
set_option linter.unusedSimpArgs false
abbrev has (s : List Bool) (j : Nat) : Prop := s.getD j false = true
theorem has_lt {s : List Bool} {j : Nat} (h : has s j) : j < s.length := by
  by_cases g : j < s.length
  · exact g
  · unfold has at h; rw [getD_ge (by omega)] at h; cases h
theorem has_set {o : List Bool} {a j : Nat} (hj : j < o.length) : has (o.set a true) j ↔ has o j ∨ j = a := by
  unfold has
  rw [set_getD]
  by_cases h : a = j
  · subst h; rw [if_pos ⟨rfl, hj⟩]; exact ⟨fun _ => Or.inr rfl, fun _ => rfl⟩
  · rw [if_neg fun e => h e.1]
    exact ⟨Or.inl, fun e => e.elim id fun e => absurd e.symm h⟩
def Hit (t : Int) (l : List Cell) (set : List Bool) (i j : Nat) : Prop := has set i ∧ ((j + 1 = i ∧ actAt t l j = true) ∨ (actAt t l i = true ∧ (j = i + 1 ∨ (actAt t l (i + 1) = true ∧ j = i + 2))))
theorem w1_iff (t : Int) (l : List Cell) (set out : List Bool) (i j : Nat) (hj : j < out.length) : has (w1 t l set out i) j ↔ has out j ∨ Hit t l set i j := by
  have A : has (cond (decide (1 ≤ i) && actAt t l (i - 1)) (out.set (i - 1) true) out) j ↔ has out j ∨ (j + 1 = i ∧ actAt t l j = true) := by
    by_cases g : 1 ≤ i
    · obtain ⟨q, rfl⟩ : ∃ q, i = q + 1 := ⟨i - 1, by omega⟩
      rw [dT g, Bool.true_and, Nat.add_sub_cancel]
      cases a : actAt t l q
      · rw [condF]
        refine ⟨Or.inl, fun e => e.elim id fun e => ?_⟩
        have : j = q := by omega
        subst this; rw [a] at e; cases e.2
      · rw [condT, has_set hj]
        refine ⟨fun e => e.imp id fun e => ⟨by omega, by subst e; exact a⟩, fun e => e.imp id fun e => by omega⟩
    · rw [dF g, Bool.false_and, condF]
      exact ⟨Or.inl, fun e => e.elim id fun e => by omega⟩
  have B : ∀ o : List Bool, j < o.length → (has (cond (actAt t l i) (cond (actAt t l (i + 1)) ((o.set (i + 1) true).set (i + 2) true) (o.set (i + 1) true)) o) j ↔ has o j ∨ (actAt t l i = true ∧ (j = i + 1 ∨ (actAt t l (i + 1) = true ∧ j = i + 2)))) := by
    intro o ho
    cases a : actAt t l i
    · rw [condF]; exact ⟨Or.inl, fun e => e.elim id fun e => by cases e.1⟩
    · rw [condT]
      cases b : actAt t l (i + 1)
      · rw [condF, has_set ho]
        exact ⟨fun e => e.imp id fun e => ⟨rfl, Or.inl e⟩, fun e => e.imp id fun e => e.2.elim id fun e => by cases e.1⟩
      · rw [condT, has_set (by rw [List.length_set]; exact ho), has_set ho]
        exact ⟨fun e => e.elim (fun e => e.imp id fun e => ⟨rfl, Or.inl e⟩) fun e => Or.inr ⟨rfl, Or.inr ⟨rfl, e⟩⟩, fun e => e.elim (fun e => Or.inl (Or.inl e)) fun e => e.2.elim (fun e => Or.inl (Or.inr e)) fun e => Or.inr e.2⟩
  cases h : set.getD i false
  · have : w1 t l set out i = out := by unfold w1; rw [h]; rfl
    rw [this]
    refine ⟨Or.inl, fun e => e.elim id fun e => ?_⟩
    have := e.1; unfold has at this; rw [h] at this; cases this
  · have e : w1 t l set out i = cond (actAt t l i) (cond (actAt t l (i + 1)) (((cond (decide (1 ≤ i) && actAt t l (i - 1)) (out.set (i - 1) true) out).set (i + 1) true).set (i + 2) true) ((cond (decide (1 ≤ i) && actAt t l (i - 1)) (out.set (i - 1) true) out).set (i + 1) true)) (cond (decide (1 ≤ i) && actAt t l (i - 1)) (out.set (i - 1) true) out) := by unfold w1; rw [h]; rfl
    rw [e, B _ (by cases (decide (1 ≤ i) && actAt t l (i - 1)) <;> simp [hj]), A]
    unfold Hit
    refine ⟨fun e => ?_, fun e => ?_⟩
    · rcases e with (e | e) | e
      · exact Or.inl e
      · exact Or.inr ⟨h, Or.inl e⟩
      · exact Or.inr ⟨h, Or.inr e⟩
    · rcases e with e | ⟨_, e | e⟩
      · exact Or.inl (Or.inl e)
      · exact Or.inl (Or.inr e)
      · exact Or.inr e
theorem wgo_iff (t : Int) (l : List Cell) (set : List Bool) (j : Nat) : ∀ (n i : Nat) (out : List Bool), j < out.length → (has (wgo t l set n i out) j ↔ has out j ∨ ∃ q, i ≤ q ∧ q < i + n ∧ Hit t l set q j)
  | 0, i, out, hj => ⟨Or.inl, fun e => e.elim id fun ⟨q, a, b, _⟩ => by omega⟩
  | n + 1, i, out, hj => by
    rw [wgo, wgo_iff t l set j n (i + 1) _ (by rw [w1_length]; exact hj), w1_iff t l set out i j hj]
    refine ⟨fun e => ?_, fun e => ?_⟩
    · rcases e with (e | e) | ⟨q, a, b, e⟩
      · exact Or.inl e
      · exact Or.inr ⟨i, by omega, by omega, e⟩
      · exact Or.inr ⟨q, by omega, by omega, e⟩
    · rcases e with e | ⟨q, a, b, e⟩
      · exact Or.inl (Or.inl e)
      · by_cases h : q = i
        · subst h; exact Or.inl (Or.inr e)
        · exact Or.inr ⟨q, by omega, by omega, e⟩
theorem widen_iff {t : Int} {l : List Cell} {set : List Bool} (hs : set.length = l.length) {j : Nat} (hj : j < l.length) : has (widen t l set) j ↔ has set j ∨ ∃ q, Hit t l set q j := by
  unfold widen
  rw [wgo_iff t l set j _ _ _ (by omega)]
  exact ⟨fun e => e.imp id fun ⟨q, _, _, h⟩ => ⟨q, h⟩, fun e => e.imp id fun ⟨q, h⟩ => ⟨q, by omega, by have := has_lt h.1; omega, h⟩⟩
theorem widen_self {t : Int} {l : List Cell} {set : List Bool} (hs : set.length = l.length) {j : Nat} (h : has set j) : has (widen t l set) j := (widen_iff hs (by have := has_lt h; omega)).2 (Or.inl h)
theorem reach_mono (l : List Cell) (c : Int) : ∀ (n : Nat) (a b : List Bool), a.length = l.length → b.length = l.length → (∀ j, has a j → has b j) → ∀ j, has (reach l c n a) j → has (reach l c n b) j
  | 0, a, b, ha, hb, h, j, e => h j e
  | n + 1, a, b, ha, hb, h, j, e => by
    rw [reach] at e ⊢
    refine reach_mono l c n _ _ (by rw [widen_length]; exact ha) (by rw [widen_length]; exact hb) (fun q hq => ?_) j e
    have ql : q < l.length := by have := has_lt hq; rw [widen_length] at this; omega
    rw [widen_iff ha ql] at hq
    rw [widen_iff hb ql]
    exact hq.imp (h q) fun ⟨s, hs⟩ => ⟨s, h s hs.1, hs.2⟩
theorem reach_self (l : List Cell) (c : Int) : ∀ (n : Nat) (a : List Bool), a.length = l.length → ∀ j, has a j → has (reach l c n a) j
  | 0, a, ha, j, e => e
  | n + 1, a, ha, j, e => by
    rw [reach]
    exact reach_self l c n _ (by rw [widen_length]; exact ha) j (widen_self ha e)
theorem reach_bd (l : List Cell) (c : Int) (i : Nat) : ∀ (n : Nat) (a : List Bool) (x y : Nat), a.length = l.length → (∀ j, has a j → i ≤ j + x ∧ j ≤ i + y) → ∀ j, has (reach l c n a) j → i ≤ j + (x + n) ∧ j ≤ i + (y + 2 * n)
  | 0, a, x, y, ha, h, j, e => by have := h j e; omega
  | n + 1, a, x, y, ha, h, j, e => by
    rw [reach] at e
    have := reach_bd l c i n _ (x + 1) (y + 2) (by rw [widen_length]; exact ha) (fun q hq => by
      have ql : q < l.length := by have := has_lt hq; rw [widen_length] at this; omega
      rw [widen_iff ha ql] at hq
      rcases hq with hq | ⟨s, h1, h2⟩
      · have := h q hq; omega
      · have := h s h1
        rcases h2 with h2 | ⟨_, h2 | ⟨_, h2⟩⟩ <;> omega) j e
    omega
theorem start_has {L i : Nat} (hi : i < L) (j : Nat) : has ((List.replicate L false).set i true) j ↔ j = i := by
  by_cases h : j < L
  · rw [has_set (by rw [List.length_replicate]; exact h)]
    refine ⟨fun e => e.elim (fun e => ?_) id, Or.inr⟩
    unfold has at e
    simp [h] at e
  · refine ⟨fun e => ?_, fun e => by omega⟩
    have := has_lt e
    rw [List.length_set, List.length_replicate] at this; omega
theorem countT_ge : ∀ a : List Bool, 0 ≤ countT a
  | [] => Int.le_refl _
  | b :: l => by have := countT_ge l; simp only [countT]; split <;> omega
theorem countT_mono : ∀ (a b : List Bool), a.length = b.length → (∀ j, has a j → has b j) → countT a ≤ countT b
  | [], [], _, _ => Int.le_refl _
  | [], _ :: _, h, _ => by simp at h
  | _ :: _, [], h, _ => by simp at h
  | x :: a, y :: b, hl, h => by
    have e := countT_mono a b (by simpa using hl) fun j hj => by have := h (j + 1); simpa [has] using this (by simpa [has] using hj)
    have e0 := h 0
    simp only [has, List.getD_cons_zero] at e0
    simp only [countT]
    cases x <;> cases y <;> simp_all <;> omega
theorem countT_pos : ∀ (a : List Bool) (j : Nat), has a j → 1 ≤ countT a
  | [], j, h => by simp [has] at h
  | x :: a, 0, h => by
    have := countT_ge a
    simp only [has, List.getD_cons_zero] at h
    simp only [countT, h, if_true]; omega
  | x :: a, j + 1, h => by
    have := countT_pos a j (by simpa [has] using h)
    simp only [countT]; split <;> omega
theorem countT_none : ∀ L : Nat, countT (List.replicate L false) = 0
  | 0 => rfl
  | L + 1 => by rw [List.replicate_succ]; simp [countT, countT_none L]
theorem countT_one : ∀ (L i : Nat), i < L → countT ((List.replicate L false).set i true) = 1
  | 0, i, h => by omega
  | L + 1, 0, h => by rw [List.replicate_succ, List.set_cons_zero]; simp [countT, countT_none L]
  | L + 1, i + 1, h => by rw [List.replicate_succ, List.set_cons_succ]; simp [countT, countT_one L i (by omega)]

/-! a tick reads no further -/
variable {r : Int} {l : List Cell} {m t b m' t' : List Int}
theorem ff_same (tk : Int) (i : Nat) (h : actAt tk l i = true → m.getD i 0 = m'.getD i 0 ∧ m.getD (i + 1) 0 = m'.getD (i + 1) 0) : ff tk l m b i = ff tk l m' b i := by
  unfold ff
  cases a : actAt tk l i
  · rfl
  · have := h a
    unfold fl surf
    rw [this.1, this.2]
theorem ff_off {tk : Int} {i : Nat} (h : actAt tk l i = false) : ff tk l m b i = 0 := by unfold ff; rw [h]; rfl
theorem outA_share (F : StF r l m t b) (tk : Int) (i : Nat) : outA tk l m t b i = shareOut (t.getD i 0) (rgt tk l m b i) (m.getD i 0) := by
  have h := F.at i; have R := rgt_le F tk i; have L := lft_le F tk i
  unfold outA loA
  by_cases g : 1 ≤ m.getD i 0
  · have ok : loOk (t.getD i 0) (m.getD i 0) (rgt tk l m b i) (lft tk l m b i) = true := by
      unfold loOk
      simp only [Bool.and_eq_true, inR_iff]
      omega
    rw [ok]; rfl
  · have z : inR (m.getD i 0) 1 10000000 = false := by rw [← Bool.not_eq_true, inR_iff]; omega
    unfold loOk shareOut
    rw [z]; rfl
theorem agree_step (F : StF r l m t b) (F' : StF r l m' t' b) (tk : Int) (set : List Bool) (hs : set.length = l.length) (h : ∀ j, has (widen tk l set) j → m.getD j 0 = m'.getD j 0 ∧ t.getD j 0 = t'.getD j 0) (j : Nat) (hj : has set j) :
    stM tk l m b j = stM tk l m' b j ∧ stT tk l m t b j = stT tk l m' t' b j := by
  have jl : j < l.length := by have := has_lt hj; omega
  have lt : ∀ q, actAt tk l q = true → q + 1 < l.length := fun q hq => by
    unfold actAt at hq; simp only [Bool.and_eq_true, decide_eq_true_eq] at hq; exact hq.1
  have E0 := h j (widen_self hs hj)
  have E1 : actAt tk l j = true → m.getD (j + 1) 0 = m'.getD (j + 1) 0 ∧ t.getD (j + 1) 0 = t'.getD (j + 1) 0 := fun a =>
    h (j + 1) ((widen_iff hs (lt j a)).2 (Or.inr ⟨j, hj, Or.inr ⟨a, Or.inl rfl⟩⟩))
  have E2 : actAt tk l j = true → actAt tk l (j + 1) = true → m.getD (j + 2) 0 = m'.getD (j + 2) 0 ∧ t.getD (j + 2) 0 = t'.getD (j + 2) 0 := fun a c =>
    h (j + 2) ((widen_iff hs (lt (j + 1) c)).2 (Or.inr ⟨j, hj, Or.inr ⟨a, Or.inr ⟨c, rfl⟩⟩⟩))
  have Em : 1 ≤ j → actAt tk l (j - 1) = true → m.getD (j - 1) 0 = m'.getD (j - 1) 0 ∧ t.getD (j - 1) 0 = t'.getD (j - 1) 0 := fun g a =>
    h (j - 1) ((widen_iff hs (by omega)).2 (Or.inr ⟨j, hj, Or.inl ⟨by omega, a⟩⟩))
  have fj : ff tk l m b j = ff tk l m' b j := ff_same tk j fun a => ⟨E0.1, (E1 a).1⟩
  have fm : 1 ≤ j → ff tk l m b (j - 1) = ff tk l m' b (j - 1) := fun g => ff_same tk (j - 1) fun a => ⟨(Em g a).1, by rw [show j - 1 + 1 = j by omega]; exact E0.1⟩
  have rj : rgt tk l m b j = rgt tk l m' b j := by unfold rgt; rw [fj]
  have lj : lft tk l m b j = lft tk l m' b j := by
    unfold lft
    by_cases g : 1 ≤ j
    · rw [if_pos g, if_pos g, fm g]
    · rw [if_neg g, if_neg g]
  have oA : outA tk l m t b j = outA tk l m' t' b j := by unfold outA; rw [rj, lj, E0.1, E0.2]
  have oB : outB tk l m t b j = outB tk l m' t' b j := by unfold outB; rw [rj, lj, E0.1, E0.2]
  have oAm : 1 ≤ j → outA tk l m t b (j - 1) = outA tk l m' t' b (j - 1) := fun g => by
    have rm : rgt tk l m b (j - 1) = rgt tk l m' b (j - 1) := by unfold rgt; rw [fm g]
    cases a : actAt tk l (j - 1)
    · rw [outA_zero (by unfold rgt; rw [ff_off a]; rfl), outA_zero (by unfold rgt; rw [ff_off a]; rfl)]
    · rw [outA_share F, outA_share F', rm, (Em g a).1, (Em g a).2]
  have oBp : outB tk l m t b (j + 1) = outB tk l m' t' b (j + 1) := by
    cases a : actAt tk l j
    · rw [outB_zero (by unfold lft; rw [if_pos (by omega), Nat.add_sub_cancel, ff_off a]; rfl), outB_zero (by unfold lft; rw [if_pos (by omega), Nat.add_sub_cancel, ff_off a]; rfl)]
    · have l1 : lft tk l m b (j + 1) = lft tk l m' b (j + 1) := by
        unfold lft; rw [if_pos (by omega), if_pos (by omega), Nat.add_sub_cancel, fj]
      have r1 : rgt tk l m b (j + 1) = rgt tk l m' b (j + 1) := by
        unfold rgt
        rw [ff_same (m' := m') tk (j + 1) fun c => ⟨(E1 a).1, (E2 a c).1⟩]
      unfold outB
      rw [l1, r1, (E1 a).1, (E1 a).2]
  refine ⟨?_, ?_⟩
  · unfold stM
    rw [E0.1, fj]
    by_cases g : 1 ≤ j
    · rw [if_pos g, if_pos g, fm g]
    · rw [if_neg g, if_neg g]
  · unfold stT
    rw [E0.2, oA, oB, oBp]
    by_cases g : 1 ≤ j
    · rw [if_pos g, if_pos g, oAm g]
    · rw [if_neg g, if_neg g]
/-- n ticks from 0 on -/
def ticks (l : List Cell) (b : List Int) : Nat → List Int × List Int → List Int × List Int
  | 0, x => x
  | n + 1, x => (tab l.length (stM n l (ticks l b n x).1 b), tab l.length (stT n l (ticks l b n x).1 (ticks l b n x).2 b))
theorem ticks_StF (F : StF r l m t b) : ∀ n : Nat, StF r l (ticks l b n (m, t)).1 (ticks l b n (m, t)).2 b
  | 0 => F
  | n + 1 => step_StF (ticks_StF F n) n
theorem ticks_agree (F : StF r l m t b) (F' : StF r l m' t' b) : ∀ (n : Nat) (set : List Bool), set.length = l.length → (∀ j, has (reach l 0 n set) j → m.getD j 0 = m'.getD j 0 ∧ t.getD j 0 = t'.getD j 0) →
    ∀ j, has set j → (ticks l b n (m, t)).1.getD j 0 = (ticks l b n (m', t')).1.getD j 0 ∧ (ticks l b n (m, t)).2.getD j 0 = (ticks l b n (m', t')).2.getD j 0
  | 0, set, hs, h, j, hj => h j hj
  | n + 1, set, hs, h, j, hj => by
    rw [reach, Int.zero_add] at h
    have IH := ticks_agree F F' n (widen n l set) (by rw [widen_length]; exact hs) h
    have jl : j < l.length := by have := has_lt hj; omega
    have e := agree_step (ticks_StF F n) (ticks_StF F' n) (n : Int) set hs IH j hj
    simp only [ticks]
    rw [tab_getD jl, tab_getD jl, tab_getD jl, tab_getD jl]
    exact e
end Go.Proofs.Ytaoffhlajfkccaa
