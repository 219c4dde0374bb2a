/- The evaluator: what a turned argument keeps; code. The evaluator: code, and every function that it evaluates. The evaluator: arguments as a claim hands them in, opened to data. -/
import Derived.Test.YtcaapedadpnjoaaE21
import Derived.ChangeArms
import Derived.WideShapes
import Derived.DataReads
namespace Go.Ev
set_option linter.unusedSimpArgs false
set_option linter.unusedVariables false
set_option linter.unnecessarySimpa false
open Go Go.RowKit
def roNc : List D → Nat
  | [] => 0
  | .arr false _ _ :: l => roNc l + 1
  | _ :: l => roNc l
mutual
def roN : D → Nat
  | .ptr _ l => roNc l
  | .fn _ l => roNs l
  | .agg l => roNs l
  | _ => 0
def roNs : List D → Nat
  | [] => 0
  | d :: ds => roN d + roNs ds
end
def RoCells (w : World) : List D → Addr → Nat → List Value → Prop
  | [], _, _, us => us = []
  | .arr false _ _ :: l, x, j, us => ∃ u us', us = u :: us' ∧ w.cell? (x.add j) = some u ∧ RoCells w l x (j + 1) us'
  | _ :: l, x, j, us => RoCells w l x (j + 1) us
mutual
def RoVal (w : World) : D → Value → List Value → Prop
  | .ptr _ l, v, us => ∀ x, v = .pointer (some x) → RoCells w l x 0 us
  | .fn _ l, v, us => ∀ f ps vs, v = .func f ps vs → RoVals w l vs.toList us
  | .agg l, v, us => ∀ vs, v = .agg vs → RoVals w l vs.toList us
  | _, _, us => us = []
def RoVals (w : World) : List D → List Value → List Value → Prop
  | [], _, us => us = []
  | d :: ds, vs, us => ∃ u1 u2, us = u1 ++ u2 ∧ u1.length = roN d ∧ ∀ v vs', vs = v :: vs' → RoVal w d v u1 ∧ RoVals w ds vs' u2
end
theorem roCells_same {w w' : World} {x : Addr} : ∀ {l : List D} {j : Nat} {us : List Value}, RoCells w l x j us → RoCells w' l x j us → ∀ (k : Nat) nil a, l[k]? = some (.arr false nil a) → w'.cell? (x.add (j + k)) = w.cell? (x.add (j + k))
  | [], j, us, h, h', k, nil, a, e => by simp at e
  | d :: l, j, us, h, h', k, nil, a, e => by
    have step : ∀ us', RoCells w l x (j + 1) us' → RoCells w' l x (j + 1) us' → ∀ k, k ≠ 0 → (d :: l)[k]? = some (.arr false nil a) → w'.cell? (x.add (j + k)) = w.cell? (x.add (j + k)) := by
      intro us' h1 h2 k hk e
      cases k with
      | zero => exact absurd rfl hk
      | succ k =>
        have := roCells_same h1 h2 k nil a (by simpa using e)
        rw [show j + 1 + k = j + (k + 1) by omega] at this
        exact this
    by_cases hd : ∃ nil a, d = .arr false nil a
    · obtain ⟨nil', a', rfl⟩ := hd
      simp only [RoCells] at h h'
      obtain ⟨u, us1, rfl, c1, r1⟩ := h
      obtain ⟨u', us2, he, c2, r2⟩ := h'
      cases he
      by_cases hk : k = 0
      · subst hk; rw [Nat.add_zero, c1, c2]
      · exact step us1 r1 r2 k hk e
    · have hk : k ≠ 0 := by rintro rfl; simp at e; exact hd ⟨_, _, e⟩
      have g : RoCells w l x (j + 1) us ∧ RoCells w' l x (j + 1) us := by
        cases d with
        | arr o n b => cases o with
          | false => exact absurd ⟨n, b, rfl⟩ hd
          | true => exact ⟨by simpa only [RoCells] using h, by simpa only [RoCells] using h'⟩
        | _ => exact ⟨by simpa only [RoCells] using h, by simpa only [RoCells] using h'⟩
      exact step us g.1 g.2 k hk e
mutual
theorem roVal_same {w w' : World} : ∀ (d : D) {v : Value} {us : List Value}, RoVal w d v us → RoVal w' d v us → Ro w w' d v
  | .ptr _ l, v, us, h, h' => by
    simp only [RoVal, Ro] at h h' ⊢
    intro x hx j nil a e
    have := roCells_same (h x hx) (h' x hx) j nil a e
    simpa using this
  | .fn _ l, v, us, h, h' => by
    simp only [RoVal, Ro] at h h' ⊢
    intro f ps vs hv
    exact roVals_same l (h f ps vs hv) (h' f ps vs hv)
  | .int _ _, v, us, h, h' => by simp only [Ro]
  | .bool _, v, us, h, h' => by simp only [Ro]
  | .str _, v, us, h, h' => by simp only [Ro]
  | .rows _ _ _, v, us, h, h' => by simp only [Ro]
  | .arr _ _ _, v, us, h, h' => by simp only [Ro]
  | .agg l, v, us, h, h' => by
    simp only [RoVal, Ro] at h h' ⊢
    intro vs hv
    exact roVals_same l (h vs hv) (h' vs hv)
theorem roVals_same {w w' : World} : ∀ (ds : List D) {vs us : List Value}, RoVals w ds vs us → RoVals w' ds vs us → Ros w w' ds vs
  | [], vs, us, h, h' => by simp only [Ros]
  | d :: ds, vs, us, h, h' => by
    simp only [RoVals, Ros] at h h' ⊢
    obtain ⟨u1, u2, rfl, hl, h⟩ := h
    obtain ⟨v1, v2, he, hl', h'⟩ := h'
    obtain ⟨rfl, rfl⟩ := List.append_inj he (by rw [hl, hl'])
    intro u us hu
    exact ⟨roVal_same d (h u us hu).1 (h' u us hu).1, roVals_same ds (h u us hu).2 (h' u us hu).2⟩
end
theorem sameSl_spec : ∀ {xs ys : List AV}, sameSl xs ys = true → xs = ys ∧ ∀ c ∈ xs, ∃ i, c = .sl i none
  | [], [], _ => ⟨rfl, fun c hc => by cases hc⟩
  | [], _ :: _, h => by simp [sameSl] at h
  | x :: xs, [], h => by cases x <;> simp [sameSl] at h
  | x :: xs, y :: ys, h => by
    unfold sameSl at h
    split at h
    · rename_i he _; cases he
    · rename_i i xs' j ys' e1 e2
      cases e1; cases e2
      simp only [Bool.and_eq_true] at h
      have hij := Nat.eq_of_beq_eq_true h.1
      subst hij
      obtain ⟨h1, h2⟩ := sameSl_spec h.2
      subst h1
      refine ⟨rfl, fun c hc => ?_⟩
      rcases List.mem_cons.1 hc with rfl | hc
      · exact ⟨i, rfl⟩
      · exact h2 c hc
    · cases h
section
variable {ρ : Env} {h : List Ent} {w : World}
theorem roCells_ex {ρ : Env} : ∀ (l : List D) {cs : List AV} {vals : List Value}, RepVs ρ cs vals → ∃ us, RepVs ρ (roCells l cs) us
  | [], cs, vals, r => ⟨[], by simp [roCells, RepVs]⟩
  | d :: l, cs, vals, r => by
    have rt : ∃ vals', RepVs ρ cs.tail vals' := by
      cases cs with
      | nil => exact ⟨[], by simp [RepVs]⟩
      | cons c cs => simp only [RepVs] at r; obtain ⟨u, us, _, _, h⟩ := r; exact ⟨us, h⟩
    have rh : ∃ u, RepV ρ (cs.headD .un) u := by
      cases cs with
      | nil => exact ⟨undef, by simp [RepV]⟩
      | cons c cs => simp only [RepVs] at r; obtain ⟨u, us, _, h, _⟩ := r; exact ⟨u, h⟩
    obtain ⟨vals', rt⟩ := rt
    obtain ⟨us, hus⟩ := roCells_ex l rt
    by_cases hd : ∃ nil a, d = .arr false nil a
    · obtain ⟨nil', a', rfl⟩ := hd
      obtain ⟨u, hu⟩ := rh
      exact ⟨u :: us, by simp only [roCells]; exact RepVs.cons hu hus⟩
    · refine ⟨us, ?_⟩
      cases d with
      | arr o n b => cases o with
        | false => exact absurd ⟨n, b, rfl⟩ hd
        | true => simpa only [roCells] using hus
      | _ => simpa only [roCells] using hus
theorem roCells_rep {x : Addr} : ∀ (l : List D) {cs : List AV} {vals us : List Value} {j : Nat}, RepVs ρ cs vals → (∀ (k : Nat) u, vals[k]? = some u → w.cell? (x.add (j + k)) = some u) → RepVs ρ (roCells l cs) us →
    (∀ c ∈ roCells l cs, ∃ i, c = .sl i none) → RoCells w l x j us ∧ us.length = roNc l
  | [], cs, vals, us, j, r, hc, hu, hs => by simp only [roCells, RepVs] at hu; subst hu; exact ⟨rfl, rfl⟩
  | d :: l, cs, vals, us, j, r, hc, hu, hs => by
    have rt : ∃ vals', RepVs ρ cs.tail vals' ∧ ∀ (k : Nat) u, vals'[k]? = some u → w.cell? (x.add (j + 1 + k)) = some u := by
      cases cs with
      | nil => exact ⟨[], by simp [RepVs], fun k u h => by simp at h⟩
      | cons c cs =>
        simp only [RepVs] at r
        obtain ⟨u, us, rfl, _, h⟩ := r
        exact ⟨us, h, fun k u' hk => by have := hc (k + 1) u' (by simpa using hk); rw [show j + 1 + k = j + (k + 1) by omega]; exact this⟩
    obtain ⟨vals', rt, hct⟩ := rt
    by_cases hd : ∃ nil a, d = .arr false nil a
    · obtain ⟨nil', a', rfl⟩ := hd
      simp only [roCells, RepVs] at hu
      obtain ⟨u, us', rfl, h1, h2⟩ := hu
      simp only [roCells] at hs
      obtain ⟨i, hi⟩ := hs (cs.headD .un) (by simp)
      cases cs with
      | nil => simp at hi
      | cons c cs =>
        simp only [List.headD_cons] at hi h1
        subst hi
        simp only [RepVs] at r
        obtain ⟨v0, vs0, rfl, hv0, _⟩ := r
        simp only [RepV, RepSl] at h1 hv0
        obtain ⟨p, hp, hu⟩ := h1
        obtain ⟨p', hp', hv⟩ := hv0
        rw [hp] at hp'; cases hp'
        obtain ⟨g1, g2⟩ := roCells_rep l rt hct h2 (fun c hc => hs c (by simp only [List.mem_cons]; exact .inr hc))
        have hcell := hc 0 v0 (by simp)
        rw [Nat.add_zero, hv, ← hu] at hcell
        exact ⟨by simp only [RoCells]; exact ⟨u, us', rfl, hcell, g1⟩, by simp [roNc, g2]⟩
    · have g : RepVs ρ (roCells l cs.tail) us ∧ (∀ c ∈ roCells l cs.tail, ∃ i, c = .sl i none) ∧ (RoCells w (d :: l) x j us ↔ RoCells w l x (j + 1) us) ∧ roNc (d :: l) = roNc l := by
        cases d with
        | arr o n b => cases o with
          | false => exact absurd ⟨n, b, rfl⟩ hd
          | true => exact ⟨by simpa only [roCells] using hu, by simpa only [roCells] using hs, by simp only [RoCells], by simp only [roNc]⟩
        | _ => exact ⟨by simpa only [roCells] using hu, by simpa only [roCells] using hs, by simp only [RoCells], by simp only [roNc]⟩
      obtain ⟨g1, g2⟩ := roCells_rep l rt hct g.1 g.2.1
      exact ⟨g.2.2.1.2 g1, by rw [g.2.2.2]; exact g2⟩
mutual
theorem roAt_ex (I : HeapOk ρ (ent h) w) : ∀ (d : D) {c : AV} {v : Value}, RepV ρ c v → ∃ us, RepVs ρ (roAt h d c) us
  | .ptr _ l, c, v, r => by
    have nilc : ∃ us, RepVs ρ (roCells l []) us := roCells_ex l (vals := []) (by simp [RepVs])
    simp only [roAt]
    cases c with
    | ptr id i o =>
      simp only
      split
      · rename_i own cs hg
        obtain ⟨p, hp, hr⟩ := I.rep id (by rw [hg]; simp)
        rw [hg] at hr
        obtain ⟨_, x, vs, _, _, hv, _⟩ := hr
        exact roCells_ex l (hv.drop o)
      · exact nilc
    | _ => exact nilc
  | .fn _ l, c, v, r => by
    have nilc : ∃ us, RepVs ρ (roAts h l []) us := roAts_ex I l (vs := []) (by simp [RepVs])
    simp only [roAt]
    cases c with
    | fn f cs => simp only [RepV] at r; obtain ⟨vs, rfl, r⟩ := r; exact roAts_ex I l r
    | _ => exact nilc
  | .int _ _, c, v, r => ⟨[], by simp [roAt, RepVs]⟩
  | .bool _, c, v, r => ⟨[], by simp [roAt, RepVs]⟩
  | .str _, c, v, r => ⟨[], by simp [roAt, RepVs]⟩
  | .arr _ _ _, c, v, r => ⟨[], by simp [roAt, RepVs]⟩
  | .rows _ _ _, c, v, r => ⟨[], by simp [roAt, RepVs]⟩
  | .agg l, c, v, r => by
    have nilc : ∃ us, RepVs ρ (roAts h l []) us := roAts_ex I l (vs := []) (by simp [RepVs])
    simp only [roAt]
    cases c with
    | agg cs => simp only [RepV] at r; obtain ⟨vs, rfl, r⟩ := r; exact roAts_ex I l r
    | _ => exact nilc
theorem roAts_ex (I : HeapOk ρ (ent h) w) : ∀ (ds : List D) {cs : List AV} {vs : List Value}, RepVs ρ cs vs → ∃ us, RepVs ρ (roAts h ds cs) us
  | [], cs, vs, r => ⟨[], by simp [roAts, RepVs]⟩
  | d :: ds, cs, vs, r => by
    simp only [roAts]
    cases cs with
    | nil =>
      obtain ⟨u1, h1⟩ := roAt_ex I d (c := .un) (v := undef) (by simp [RepV])
      obtain ⟨u2, h2⟩ := roAts_ex I ds (cs := []) (vs := []) (by simp [RepVs])
      exact ⟨u1 ++ u2, by simpa using h1.append h2⟩
    | cons c cs =>
      simp only [RepVs] at r
      obtain ⟨v, vs, rfl, r1, r2⟩ := r
      obtain ⟨u1, h1⟩ := roAt_ex I d r1
      obtain ⟨u2, h2⟩ := roAts_ex I ds r2
      exact ⟨u1 ++ u2, by simpa using h1.append h2⟩
end
mutual
theorem roAt_rep (I : HeapOk ρ (ent h) w) : ∀ (d : D) {c : AV} {v : Value} {us : List Value}, RepV ρ c v → RepVs ρ (roAt h d c) us → (∀ c' ∈ roAt h d c, ∃ i, c' = .sl i none) → RoVal w d v us ∧ us.length = roN d
  | .ptr _ l, c, v, us, r, hu, hs => by
    have nilc : RepVs ρ (roCells l []) us → (∀ c' ∈ roCells l [], ∃ i, c' = .sl i none) → RoVal w (.ptr true l) v us ∧ us.length = roN (.ptr true l) := by
      intro h1 h2
      have g := fun x => roCells_rep (w := w) (x := x) (j := 0) l (cs := []) (vals := []) (by simp [RepVs]) (fun k u h => by simp at h) h1 h2
      exact ⟨by simp only [RoVal]; exact fun x hx => (g x).1, by simp only [roN]; exact (g default).2⟩
    simp only [RoVal, roN] at nilc ⊢
    simp only [roAt] at hu hs
    cases c with
    | ptr id i o =>
      simp only at hu hs
      split at hu
      · rename_i own cs hg
        rw [hg] at hs
        simp only at hs
        simp only [RepV] at r
        obtain ⟨p, a, hp, hb, hi, rfl⟩ := r
        obtain ⟨p', hp', hr⟩ := I.rep id (by rw [hg]; simp)
        rw [hp] at hp'; cases hp'
        rw [hg] at hr
        obtain ⟨k1, x, vs, k2, k3, k4, k5, _⟩ := hr
        rw [hb] at k2; cases k2
        have hi0 : i = 0 := by omega
        subst hi0
        have g := roCells_rep (w := w) (x := a.add (0 * p.size + o)) (j := 0) l (k4.drop o) (fun k u hk => by
          rw [addr_add_add]
          rw [List.getElem?_drop] at hk
          rw [show 0 * p.size + o + (0 + k) = o + k by omega]
          exact k5 _ u hk) hu hs
        exact ⟨fun x hx => by cases hx; exact g.1, g.2⟩
      · rename_i hne
        split at hs
        · rename_i own cs hg; exact absurd hg (hne own cs)
        · exact nilc hu hs
    | _ => exact nilc hu hs
  | .fn _ l, c, v, us, r, hu, hs => by
    simp only [RoVal, roN]
    simp only [roAt] at hu hs
    have nilc : RepVs ρ (roAts h l []) us → (∀ c' ∈ roAts h l [], ∃ i, c' = .sl i none) → (∀ f ps vs, v = .func f ps vs → RoVals w l vs.toList us) ∧ us.length = roNs l := by
      intro h1 h2
      have g := fun vs => roAts_rep I l (cs := []) (vs := vs) (us := us) (by intro k; simp [RepV]) h1 h2
      exact ⟨fun f ps vs _ => (g _).1, (g []).2⟩
    cases c with
    | fn f cs =>
      simp only [RepV] at r
      obtain ⟨vs, rfl, r⟩ := r
      have g := roAts_rep I l (us := us) (fun k => r.get k) hu hs
      exact ⟨fun f ps vs' hv => by cases hv; exact g.1, g.2⟩
    | _ => exact nilc hu hs
  | .int _ _, c, v, us, r, hu, hs => by simp only [roAt, RepVs] at hu; subst hu; exact ⟨by simp only [RoVal], by simp only [roN, List.length_nil]⟩
  | .bool _, c, v, us, r, hu, hs => by simp only [roAt, RepVs] at hu; subst hu; exact ⟨by simp only [RoVal], by simp only [roN, List.length_nil]⟩
  | .str _, c, v, us, r, hu, hs => by simp only [roAt, RepVs] at hu; subst hu; exact ⟨by simp only [RoVal], by simp only [roN, List.length_nil]⟩
  | .arr _ _ _, c, v, us, r, hu, hs => by simp only [roAt, RepVs] at hu; subst hu; exact ⟨by simp only [RoVal], by simp only [roN, List.length_nil]⟩
  | .rows _ _ _, c, v, us, r, hu, hs => by simp only [roAt, RepVs] at hu; subst hu; exact ⟨by simp only [RoVal], by simp only [roN, List.length_nil]⟩
  | .agg l, c, v, us, r, hu, hs => by
    simp only [RoVal, roN]
    simp only [roAt] at hu hs
    have nilc : RepVs ρ (roAts h l []) us → (∀ c' ∈ roAts h l [], ∃ i, c' = .sl i none) → (∀ vs, v = .agg vs → RoVals w l vs.toList us) ∧ us.length = roNs l := by
      intro h1 h2
      have g := fun vs => roAts_rep I l (cs := []) (vs := vs) (us := us) (by intro k; simp [RepV]) h1 h2
      exact ⟨fun vs _ => (g _).1, (g []).2⟩
    cases c with
    | agg cs =>
      simp only [RepV] at r
      obtain ⟨vs, rfl, r⟩ := r
      have g := roAts_rep I l (us := us) (fun k => r.get k) hu hs
      exact ⟨fun vs' hv => by cases hv; exact g.1, g.2⟩
    | _ => exact nilc hu hs
theorem roAts_rep (I : HeapOk ρ (ent h) w) : ∀ (ds : List D) {cs : List AV} {vs us : List Value}, (∀ k, RepV ρ (cs.getD k .un) (vs.getD k undef)) → RepVs ρ (roAts h ds cs) us → (∀ c' ∈ roAts h ds cs, ∃ i, c' = .sl i none) → RoVals w ds vs us ∧ us.length = roNs ds
  | [], cs, vs, us, r, hu, hs => by simp only [roAts, RepVs] at hu; subst hu; exact ⟨by simp only [RoVals], rfl⟩
  | d :: ds, cs, vs, us, r, hu, hs => by
    simp only [roAts] at hu hs
    obtain ⟨s1, s2⟩ := hu.split
    have e0 : cs.headD .un = cs.getD 0 .un := by cases cs <;> rfl
    have et : ∀ k, cs.tail.getD k .un = cs.getD (k + 1) .un := by intro k; cases cs <;> simp
    have vt : ∀ k, vs.tail.getD k undef = vs.getD (k + 1) undef := by intro k; cases vs <;> simp
    have g1 := roAt_rep I d (v := vs.getD 0 undef) (by rw [e0]; exact r 0) s1 (fun c hc => hs c (List.mem_append_left _ hc))
    have g2 := roAts_rep I ds (cs := cs.tail) (vs := vs.tail) (fun k => by rw [et, vt]; exact r (k + 1)) s2 (fun c hc => hs c (List.mem_append_right _ hc))
    refine ⟨?_, ?_⟩
    · simp only [RoVals]
      refine ⟨_, _, (List.take_append_drop _ us).symm, g1.2, fun v vs' hv => ?_⟩
      subst hv
      exact ⟨by simpa using g1.1, by simpa using g2.1⟩
    · have := g1.2; have := g2.2
      have hl := congrArg List.length (List.take_append_drop (roAt h d (cs.headD .un)).length us)
      rw [List.length_append] at hl
      simp only [roNs]; omega
end
end
end Go.Ev
namespace Go.Ev
set_option linter.unusedSimpArgs false
set_option linter.unusedVariables false
set_option linter.unnecessarySimpa false
open Go Go.RowKit
theorem least {p : Nat → Prop} : ∀ k, p k → ∃ m, p m ∧ ∀ j, p j → m ≤ j := by
  intro k
  induction k using Nat.strongRecOn with
  | _ k ih =>
    intro hk
    by_cases h : ∃ j, j < k ∧ p j
    · obtain ⟨j, hj, hp⟩ := h
      exact ih j hj hp
    · exact ⟨k, hk, fun j hj => Nat.le_of_not_lt fun hlt => h ⟨j, hlt, hj⟩⟩
open Classical in
noncomputable def leastOr (p : Nat → Prop) : Nat := if h : ∃ k, p k then (least h.choose h.choose_spec).choose else 0
theorem leastOr_spec {p : Nat → Prop} {k : Nat} (hk : p k) : p (leastOr p) ∧ ∀ j, p j → leastOr p ≤ j := by
  have h : ∃ k, p k := ⟨k, hk⟩
  unfold leastOr
  rw [dif_pos h]
  exact (least h.choose h.choose_spec).choose_spec
theorem wp_loop_fuel {P : Program} {c : Code} {Q : Exit → Act → World → Prop} (I : Nat → Act → World → Prop) (round : ∀ k a w, I k a w → c.wp P (Exit.then (fun a' w' => ∃ j, j < k ∧ I j a' w') Q) a w) {k : Nat} {a : Act} {w : World} (h : I k a w) :
    (Code.loop c).wp P Q a w := by
  refine wp_loop (fun a w => ∃ k, I k a w) (fun a w => leastOr fun k => I k a w) ⟨k, h⟩ fun a w ⟨k, hk⟩ => ?_
  have hm := (leastOr_spec (p := fun k => I k a w) hk).1
  refine wp_mono (round _ a w hm) fun e a' w' hq => ?_
  cases e with
  | normal =>
    obtain ⟨j, hj, hI⟩ := hq
    exact ⟨⟨j, hI⟩, Nat.lt_of_le_of_lt ((leastOr_spec (p := fun k => I k a' w') hI).2 j hI) hj⟩
  | _ => exact hq
def Ex.out : Ex → Exit
  | .normal => .normal
  | .exit id => .exit id
  | .ret => .ret
section
variable {P : Program} {A : Ann} {cal : Nat → List D → Option (List D)} {inl : Inl} {w0 : World} {M : Nat → Nat → Prop}
theorem acc_none {V : Type} (wr : Nat → Nat → Option V) (x0 : Nat → V) : ∀ k, acc wr x0 (fun _ => false) k = x0
  | 0 => rfl
  | k + 1 => by funext loc; simp only [acc, Bool.false_eq_true, if_false]; rw [acc_none wr x0 k]
theorem region_ok (G : Good P) (hcal : CalOk P A cal) (hinl : InlOk P inl) {id : Nat} {ops : Array Oper} {draw : Bool} {s : St} {K : St → R} {out : List D} {ρ : Env} {gv : List Value} {a : Act} {w : World} {Q : Exit → Act → World → Prop}
    (h : (evOps P A cal inl draw ops.toList ops.toList s [] fun s tr => cond draw (cond (bern ops.toList tr) (K s) none) (K s)) = some out) (R : StR w0 M ρ s gv a w)
    (hQ : ∀ s' ρ' a' w', K s' = some out → StR w0 M ρ' s' gv a' w' → Q .normal a' w') : (Code.region id ops draw).wp P Q a w := by
  cases draw with
  | false =>
    refine wp_region_list (ops_ok G hcal hinl (fun s' tr' ρ' a' w' hk => ?_) ops.toList s [] ρ a w h R)
    exact hQ s' ρ' a' w' (by simpa using hk)
  | true =>
    obtain ⟨fr, hp, sts, trs, f1, f2, f3, W⟩ := walk _ _ _ h
    simp only [cond_true, List.nil_append, Array.length_toList] at f3
    cases hb : bern ops.toList trs with
    | false => rw [hb] at f3; cases f3
    | true =>
      rw [hb] at f3
      simp only [cond_true] at f3
      refine wp_region_any G.mixed ?_
      have hE : (fun i => (Array.replicate ops.size false).getD i false) = fun _ => false := by
        funext i
        simp only [Array.getD_eq_getD_getElem?, Array.getElem?_replicate]
        split <;> rfl
      refine drawn_ok G hcal W hb (fun ρ' a' w' R' => hQ _ ρ' a' w' f3 R') ops.size _ a _ ρ (by simp) ?_ ?_ ?_
      · rw [hE, cnt_none]; exact Nat.le_refl _
      · intro i o hi; rw [hE] at hi; cases hi
      · rw [hE]
        have hfr : frE ops.toList sts (fr 0) (fun _ => false) = s.fr := by
          unfold frE
          rw [acc_none, f1]
          apply List.ext_getElem?
          intro i
          by_cases hi : i < s.fr.length
          · simp [hi]
          · rw [List.getElem?_eq_none (by simp; omega), List.getElem?_eq_none (by omega)]
        have hhp : hpE ops.toList sts (hp 0) (fun _ => false) = ent s.h := by
          unfold hpE
          rw [acc_none, f2]
        refine ⟨by rw [hfr]; exact R.fr, R.pn, by rw [hhp]; exact R.inv.world (fr_drew w), ?_, ?_, R.calm⟩
        · intro j st _ hst i hi
          have hj := (List.getElem?_eq_some_iff.1 hst).1
          rw [W.1] at hj
          obtain ⟨_, st', _, _, hst', _, S, _⟩ := W.at hj
          rw [hst] at hst'; cases hst'
          have h1 := (S.news i hi).1
          have h2 := W.mono 0 j (Nat.zero_le _) (Nat.le_of_lt hj)
          rw [f2] at h2
          exact R.top i (Nat.le_trans h2 h1)
        · intro i hi
          have h2 := W.mono 0 ops.size (Nat.zero_le _) (by simp)
          rw [f2] at h2
          exact R.top i (Nat.le_trans h2 hi)
theorem ent_parts {h : List Ent} {id : Nat} {e b1 b2 b3 : Ent} (hd : ent h id ≠ .dead) : ent ((((h.set id e) ++ [b1]) ++ [b2]) ++ [b3]) = upd (upd (upd (upd (ent h) id e) h.length b1) (h.length + 1) b2) (h.length + 2) b3 := by
  rw [ent_push, ent_push, ent_push, ent_set _ _ _ hd]
  simp [List.length_append, List.length_set]
theorem upd_swap {g : Hp} {i j : Nat} {a b : Ent} (h : i ≠ j) : upd (upd g i a) j b = upd (upd g j b) i a := by
  funext k
  simp only [upd]
  by_cases h1 : k = j
  · subst h1; rw [if_pos rfl, if_neg (Ne.symm h), if_pos rfl]
  · rw [if_neg h1, if_neg h1]
theorem upd_twice {g : Hp} {i : Nat} {a b : Ent} : upd (upd g i a) i b = upd g i b := by
  funext k
  simp only [upd]
  by_cases h1 : k = i
  · rw [if_pos h1, if_pos h1]
  · rw [if_neg h1, if_neg h1, if_neg h1]
theorem updρ_swap {ρ : Env} {i j : Nat} {a b : Plc} (h : i ≠ j) : updρ (updρ ρ i a) j b = updρ (updρ ρ j b) i a := by
  funext k
  simp only [updρ]
  by_cases h1 : k = j
  · subst h1; rw [if_pos rfl, if_neg (Ne.symm h), if_pos rfl]
  · rw [if_neg h1, if_neg h1]
/-- a variable is held in three parts -/
theorem Inv.cut {ρ : Env} {g : Hp} {w : World} (I : Inv w0 M ρ g w) {id i1 i2 i3 o n : Nat} {cs : List AV} (hg : g id = .box true cs) (hle : o + n ≤ cs.length) (n1 : ρ i1 = none) (n2 : ρ i2 = none) (n3 : ρ i3 = none) (h12 : i1 ≠ i2) (h13 : i1 ≠ i3) (h23 : i2 ≠ i3) :
    ∃ p1 p2 p3, Inv w0 M (updρ (updρ (updρ ρ i1 p1) i2 p2) i3 p3) (upd (upd (upd (upd g id (.parts o n i1 i2 i3)) i1 (.box true (cs.take o))) i2 (.box true ((cs.drop o).take n))) i3 (.box true (cs.drop (o + n)))) w := by
  obtain ⟨p, hp, hr⟩ := I.ok.rep id (by rw [hg]; simp)
  rw [hg] at hr
  obtain ⟨k1, x, vs, k2, k3, k4, k5, k6⟩ := hr
  have k6 := k6 rfl
  have hlen := k4.length
  have own : (g id).own = true := by rw [hg]; rfl
  have F0 : ∀ b off, foot p (g id) b off ↔ boxFoot x cs.length b off := fun b off => by rw [hg]; exact foot_box k2
  have lt : (cs.take o).length = o := by rw [List.length_take]; omega
  have lm : ((cs.drop o).take n).length = n := by rw [List.length_take, List.length_drop]; omega
  have ld : (cs.drop (o + n)).length = cs.length - (o + n) := List.length_drop ..
  have x0 : x.add 0 = x := addr_add_zero x
  have d1 : id ≠ i1 := by rintro rfl; rw [hp] at n1; cases n1
  have d2 : id ≠ i2 := by rintro rfl; rw [hp] at n2; cases n2
  have d3 : id ≠ i3 := by rintro rfl; rw [hp] at n3; cases n3
  have dead : ∀ i, ρ i = none → g i = .dead := fun i hi => by
    cases hgi : g i with
    | dead => rfl
    | _ => obtain ⟨q, hq, _⟩ := I.ok.rep i (by rw [hgi]; simp); rw [hi] at hq; cases hq
  have J0 := I.kill id
  have other : ∀ (j : Nat) (q : Plc) (b off : Nat), j ≠ id → ρ j = some q → boxFoot x cs.length b off → ¬ foot q (g j) b off := fun j q b off hj hq h h' => I.ok.sep id j p q (Ne.symm hj) hp hq own b off ((F0 _ _).2 h) h'
  have otherI : ∀ (j : Nat) (q : Plc) (b off : Nat), ρ j = some q → boxFoot x cs.length b off → ¬ inn q (g j) b off := fun j q b off hq h h' => I.ok.inn id j p q hp hq own b off ((F0 _ _).2 h) h'
  refine ⟨⟨some x, 1, 1, 0, []⟩, ⟨some (x.add o), 1, 1, 0, []⟩, ⟨some (x.add (o + n)), 1, 1, 0, []⟩, ?_⟩
  have I1 := J0.put (ρ' := updρ ρ i1 ⟨some x, 1, 1, 0, []⟩) (id := i1) (p := ⟨some x, 1, 1, 0, []⟩) (e := .box true (cs.take o)) (sub_updρ n1) (fun i hi => updρ_other _ _ hi) (updρ_same _ _ _) (by rw [upd_other _ _ (Ne.symm d1)]; exact dead i1 n1)
    ⟨rfl, x, vs.take o, rfl, k3, (k4.take o).mono (sub_updρ n1) _ _, by have := k5.sub 0 o; rwa [x0, List.drop_zero] at this, fun _ => by have := k6.sub 0 o (by omega); rw [x0] at this; rw [show (vs.take o).length = o by rw [List.length_take]; omega]; exact this⟩
    (fun j q hj hq _ b off h h' => by
      rw [foot_box (x := x) rfl, lt] at h
      by_cases ej : j = id
      · subst ej; rw [upd_same] at h'; exact h'
      · rw [upd_other _ _ ej] at h'
        exact other j q b off ej hq (boxFoot_part (o := 0) (k := o) (n := cs.length) (by omega) (by rw [x0]; exact h)) h')
    (fun _ b off h => I.own id p hp own b off ((F0 _ _).2 (boxFoot_part (o := 0) (k := o) (n := cs.length) (by omega) (by rw [x0]; rw [foot_box (x := x) rfl, lt] at h; exact h))))
    (fun _ j q hj hq b off h h' => by
      rw [foot_box (x := x) rfl, lt] at h
      by_cases ej : j = id
      · subst ej; rw [upd_same] at h'; exact h'
      · rw [upd_other _ _ ej] at h'
        exact otherI j q b off hq (boxFoot_part (o := 0) (k := o) (n := cs.length) (by omega) (by rw [x0]; exact h)) h')
  have n2' : updρ ρ i1 ⟨some x, 1, 1, 0, []⟩ i2 = none := by rw [updρ_other _ _ (Ne.symm h12)]; exact n2
  have I2 := I1.put (ρ' := updρ (updρ ρ i1 ⟨some x, 1, 1, 0, []⟩) i2 ⟨some (x.add o), 1, 1, 0, []⟩) (id := i2) (p := ⟨some (x.add o), 1, 1, 0, []⟩) (e := .box true ((cs.drop o).take n)) (sub_updρ n2') (fun i hi => updρ_other _ _ hi) (updρ_same _ _ _) (by rw [upd_other _ _ (Ne.symm h12), upd_other _ _ (Ne.symm d2)]; exact dead i2 n2)
    ⟨rfl, x.add o, (vs.drop o).take n, rfl, spot_add x o k3, (((k4.drop o).take n).mono (sub_updρ n1) _ _).mono (sub_updρ n2') _ _, k5.sub o n, fun _ => by rw [show ((vs.drop o).take n).length = n by rw [List.length_take, List.length_drop]; omega]; exact k6.sub o n (by omega)⟩
    (fun j q hj hq _ b off h h' => by
      rw [foot_box (x := x.add o) rfl, lm] at h
      by_cases e1 : j = i1
      · subst e1
        rw [updρ_same] at hq; cases hq
        rw [upd_same, foot_box (x := x) rfl, lt] at h'
        obtain ⟨_, a2, _⟩ := h; obtain ⟨_, _, a3⟩ := h'
        rw [addr_off] at a2; omega
      · rw [updρ_other _ _ e1] at hq
        rw [upd_other _ _ e1] at h'
        by_cases ej : j = id
        · subst ej; rw [upd_same] at h'; exact h'
        · rw [upd_other _ _ ej] at h'
          exact other j q b off ej hq (boxFoot_part (by omega) h) h')
    (fun _ b off h => I.own id p hp own b off ((F0 _ _).2 (boxFoot_part (o := o) (k := n) (by omega) (by rw [foot_box (x := x.add o) rfl, lm] at h; exact h))))
    (fun _ j q hj hq b off h h' => by
      rw [foot_box (x := x.add o) rfl, lm] at h
      by_cases e1 : j = i1
      · subst e1; rw [upd_same] at h'; exact h'
      · rw [updρ_other _ _ e1] at hq
        rw [upd_other _ _ e1] at h'
        by_cases ej : j = id
        · subst ej; rw [upd_same] at h'; exact h'
        · rw [upd_other _ _ ej] at h'
          exact otherI j q b off hq (boxFoot_part (by omega) h) h')
  have n3' : updρ (updρ ρ i1 ⟨some x, 1, 1, 0, []⟩) i2 ⟨some (x.add o), 1, 1, 0, []⟩ i3 = none := by rw [updρ_other _ _ (Ne.symm h23), updρ_other _ _ (Ne.symm h13)]; exact n3
  have I3 := I2.put (ρ' := updρ (updρ (updρ ρ i1 ⟨some x, 1, 1, 0, []⟩) i2 ⟨some (x.add o), 1, 1, 0, []⟩) i3 ⟨some (x.add (o + n)), 1, 1, 0, []⟩) (id := i3) (p := ⟨some (x.add (o + n)), 1, 1, 0, []⟩) (e := .box true (cs.drop (o + n))) (sub_updρ n3') (fun i hi => updρ_other _ _ hi) (updρ_same _ _ _) (by rw [upd_other _ _ (Ne.symm h23), upd_other _ _ (Ne.symm h13), upd_other _ _ (Ne.symm d3)]; exact dead i3 n3)
    ⟨rfl, x.add (o + n), vs.drop (o + n), rfl, spot_add x _ k3, (((k4.drop (o + n)).mono (sub_updρ n1) _ _).mono (sub_updρ n2') _ _).mono (sub_updρ n3') _ _, by have := k5.sub (o + n) (vs.length - (o + n)); rwa [List.take_of_length_le (by simp)] at this, fun _ => by rw [List.length_drop]; exact k6.sub (o + n) _ (by omega)⟩
    (fun j q hj hq _ b off h h' => by
      rw [foot_box (x := x.add (o + n)) rfl, ld] at h
      by_cases e2 : j = i2
      · subst e2
        rw [updρ_same] at hq; cases hq
        rw [upd_same, foot_box (x := x.add o) rfl, lm] at h'
        obtain ⟨_, a2, _⟩ := h; obtain ⟨_, _, a3⟩ := h'
        rw [addr_off] at a2 a3; omega
      · rw [updρ_other _ _ e2] at hq
        rw [upd_other _ _ e2] at h'
        by_cases e1 : j = i1
        · subst e1
          rw [updρ_same] at hq; cases hq
          rw [upd_same, foot_box (x := x) rfl, lt] at h'
          obtain ⟨_, a2, _⟩ := h; obtain ⟨_, _, a3⟩ := h'
          rw [addr_off] at a2; omega
        · rw [updρ_other _ _ e1] at hq
          rw [upd_other _ _ e1] at h'
          by_cases ej : j = id
          · subst ej; rw [upd_same] at h'; exact h'
          · rw [upd_other _ _ ej] at h'
            exact other j q b off ej hq (boxFoot_part (o := o + n) (k := cs.length - (o + n)) (by omega) h) h')
    (fun _ b off h => I.own id p hp own b off ((F0 _ _).2 (boxFoot_part (o := o + n) (k := cs.length - (o + n)) (by omega) (by rw [foot_box (x := x.add (o + n)) rfl, ld] at h; exact h))))
    (fun _ j q hj hq b off h h' => by
      rw [foot_box (x := x.add (o + n)) rfl, ld] at h
      by_cases e2 : j = i2
      · subst e2; rw [upd_same] at h'; exact h'
      · rw [updρ_other _ _ e2] at hq
        rw [upd_other _ _ e2] at h'
        by_cases e1 : j = i1
        · subst e1; rw [upd_same] at h'; exact h'
        · rw [updρ_other _ _ e1] at hq
          rw [upd_other _ _ e1] at h'
          by_cases ej : j = id
          · subst ej; rw [upd_same] at h'; exact h'
          · rw [upd_other _ _ ej] at h'
            exact otherI j q b off hq (boxFoot_part (o := o + n) (k := cs.length - (o + n)) (by omega) h) h')
  have I4 := I3.put (ρ' := updρ (updρ (updρ ρ i1 ⟨some x, 1, 1, 0, []⟩) i2 ⟨some (x.add o), 1, 1, 0, []⟩) i3 ⟨some (x.add (o + n)), 1, 1, 0, []⟩) (id := id) (p := p) (e := .parts o n i1 i2 i3) (Sub.refl _) (fun _ _ => rfl)
    (by rw [updρ_other _ _ d3, updρ_other _ _ d2, updρ_other _ _ d1]; exact hp) (by rw [upd_other _ _ d3, upd_other _ _ d2, upd_other _ _ d1, upd_same])
    ⟨k1, x, _, _, _, k2, by rw [updρ_other _ _ h13, updρ_other _ _ h12, updρ_same], rfl, rfl, by rw [updρ_other _ _ h23, updρ_same], rfl, rfl, updρ_same _ _ _, rfl, rfl⟩
    (fun j q hj hq ho b off h => h.elim) (fun h => nomatch h) (fun h => nomatch h)
  rw [upd_swap (Ne.symm d3), upd_swap (Ne.symm d2), upd_swap (Ne.symm d1), upd_twice] at I4
  exact I4
/-- and is one again -/
theorem Inv.whole {ρ : Env} {g : Hp} {w : World} (I : Inv w0 M ρ g w) {id i1 i2 i3 o n : Nat} {c1 c2 c3 : List AV} (hg : g id = .parts o n i1 i2 i3) (g1 : g i1 = .box true c1) (g2 : g i2 = .box true c2) (g3 : g i3 = .box true c3) (hc1 : c1.length = o) (hc2 : c2.length = n)
    (h12 : i1 ≠ i2) (h13 : i1 ≠ i3) (h23 : i2 ≠ i3) : Inv w0 M ρ (upd (upd (upd (upd g i2 .dead) i3 .dead) i1 .dead) id (.box true (c1 ++ (c2 ++ c3)))) w := by
  obtain ⟨p, hp, hr⟩ := I.ok.rep id (by rw [hg]; simp)
  rw [hg] at hr
  obtain ⟨m1, x, q1, q2, q3, m2, a1, b1, e1, a2, b2, e2, a3, b3, e3⟩ := hr
  have d1 : id ≠ i1 := by rintro rfl; rw [hg] at g1; cases g1
  have d2 : id ≠ i2 := by rintro rfl; rw [hg] at g2; cases g2
  have d3 : id ≠ i3 := by rintro rfl; rw [hg] at g3; cases g3
  have J := I.join h12 h13 h23 g1 g2 g3 a1 a2 a3 b1 (by rw [hc1]; exact b2) (by rw [hc1, hc2]; exact b3)
  obtain ⟨q, hq, hr⟩ := J.ok.rep i1 (by rw [upd_same]; simp)
  rw [a1] at hq; cases hq
  rw [upd_same] at hr
  obtain ⟨k1, y, vs, k2, k3, k4, k5, k6⟩ := hr
  rw [b1] at k2; cases k2
  have own : (upd (upd (upd g i2 .dead) i3 .dead) i1 (.box true (c1 ++ (c2 ++ c3))) i1).own = true := by rw [upd_same]; rfl
  have J2 := (J.kill i1).kill id
  have K := J2.put (ρ' := ρ) (id := id) (p := p) (e := .box true (c1 ++ (c2 ++ c3))) (Sub.refl _) (fun _ _ => rfl) hp (by rw [upd_same])
    ⟨m1, x, vs, m2, k3, k4, k5, k6⟩
    (fun j q' hj hq' ho b off h h' => by
      rw [upd_other _ _ hj] at h'
      rw [foot_box m2] at h
      by_cases ej : j = i1
      · subst ej; rw [upd_same] at h'; exact h'
      · rw [upd_other _ _ ej] at h'
        exact J.ok.sep i1 j q1 q' (Ne.symm ej) a1 hq' own b off (by rw [upd_same, foot_box b1]; exact h) h')
    (fun _ b off h => J.own i1 q1 a1 own b off (by rw [upd_same, foot_box b1]; rw [foot_box m2] at h; exact h))
    (fun _ j q' hj hq' b off h h' => by
      rw [upd_other _ _ hj] at h'
      rw [foot_box m2] at h
      by_cases ej : j = i1
      · subst ej; rw [upd_same] at h'; exact h'
      · rw [upd_other _ _ ej] at h'
        exact J.ok.inn i1 j q1 q' a1 hq' own b off (by rw [upd_same, foot_box b1]; exact h) h')
  rw [upd_twice, upd_twice] at K
  exact K
theorem partIn_ok {t o n : Nat} {s : St} {K : Nat → St → R} {out : List D} {ρ : Env} {gv : List Value} {a : Act} {w : World} (h : partIn t o n s K = some out) (R : StR w0 M ρ s gv a w) : ∃ v s' ρ', K v s' = some out ∧ StR w0 M ρ' s' gv a w := by
  unfold partIn at h
  split at h
  · rename_i id hfr
    split at h
    · rename_i cs hg
      cases hc : Nat.ble (o + n) cs.length with
      | false => rw [hc] at h; cases h
      | true =>
        rw [hc] at h
        simp only [cond_true] at h
        have hle := Nat.le_of_ble_eq_true hc
        have t1 := R.top s.h.length (Nat.le_refl _); have t2 := R.top (s.h.length + 1) (by omega); have t3 := R.top (s.h.length + 2) (by omega)
        obtain ⟨p1, p2, p3, J⟩ := R.inv.cut (o := o) (n := n) hg hle t1 t2 t3 (by omega) (by omega) (by omega)
        rw [← ent_parts (by rw [hg]; simp)] at J
        have sub : Sub ρ (updρ (updρ (updρ ρ s.h.length p1) (s.h.length + 1) p2) (s.h.length + 2) p3) := (sub_updρ t1).trans ((sub_updρ (by rw [updρ_other _ _ (by omega)]; exact t2)).trans (sub_updρ (by rw [updρ_other _ _ (by omega), updρ_other _ _ (by omega)]; exact t3)))
        refine ⟨id, _, _, h, ⟨R.fr.mono sub _ _, R.pn.mono sub _ _, J, fun i hi => ?_, R.calm⟩⟩
        simp only [List.length_append, List.length_set, List.length_cons, List.length_nil] at hi
        rw [updρ_other _ _ (by omega), updρ_other _ _ (by omega), updρ_other _ _ (by omega)]
        exact R.top i (by omega)
    · cases h
  · cases h
theorem partOut_ok {id : Nat} {s : St} {K : St → R} {out : List D} {ρ : Env} {gv : List Value} {a : Act} {w : World} (h : partOut id s K = some out) (R : StR w0 M ρ s gv a w) : ∃ s', K s' = some out ∧ StR w0 M ρ s' gv a w := by
  unfold partOut at h
  split at h
  · rename_i o n i1 i2 i3 hg
    split at h
    · rename_i c1 c2 c3 g1 g2 g3
      cases hc : (Nat.beq c1.length o && (Nat.beq c2.length n && (!(Nat.beq i1 i2) && (!(Nat.beq i1 i3) && !(Nat.beq i2 i3))))) with
      | false => rw [hc] at h; cases h
      | true =>
        rw [hc] at h
        simp only [cond_true] at h
        simp only [Bool.and_eq_true, Bool.not_eq_true'] at hc
        obtain ⟨e1, e2, e3, e4, e5⟩ := hc
        have ne : ∀ {a b : Nat}, Nat.beq a b = false → a ≠ b := fun {a b} h e => by subst e; rw [Nat.beq_refl] at h; cases h
        have J := R.inv.whole hg g1 g2 g3 (Nat.eq_of_beq_eq_true e1) (Nat.eq_of_beq_eq_true e2) (ne e3) (ne e4) (ne e5)
        have d1 : id ≠ i1 := by rintro rfl; rw [hg] at g1; cases g1
        have d2 : id ≠ i2 := by rintro rfl; rw [hg] at g2; cases g2
        have d3 : id ≠ i3 := by rintro rfl; rw [hg] at g3; cases g3
        have es : ent ((((s.h.set i2 .dead).set i3 .dead).set i1 .dead).set id (.box true (c1 ++ (c2 ++ c3)))) = upd (upd (upd (upd (ent s.h) i2 .dead) i3 .dead) i1 .dead) id (.box true (c1 ++ (c2 ++ c3))) := by
          have s1 := ent_set s.h i2 .dead (by rw [g2]; simp)
          have s2 := ent_set (s.h.set i2 .dead) i3 .dead (by rw [s1, upd_other _ _ (Ne.symm (ne e5)), g3]; simp)
          have s3 := ent_set ((s.h.set i2 .dead).set i3 .dead) i1 .dead (by rw [s2, s1, upd_other _ _ (ne e4), upd_other _ _ (ne e3), g1]; simp)
          have s4 := ent_set (((s.h.set i2 .dead).set i3 .dead).set i1 .dead) id (.box true (c1 ++ (c2 ++ c3))) (by rw [s3, s2, s1, upd_other _ _ d1, upd_other _ _ d3, upd_other _ _ d2, hg]; simp)
          rw [s4, s3, s2, s1]
        rw [← es] at J
        exact ⟨_, h, ⟨R.fr, R.pn, J, fun i hi => R.top i (by simpa using hi), R.calm⟩⟩
    · cases h
  · cases h
theorem evC_ok (G : Good P) (hcal : CalOk P A cal) (hinl : InlOk P inl) {f lf : Nat} {gv : List Value} {out : List D} : ∀ (c : Code) {s : St} {K : Kont} {ρ : Env} {a : Act} {w : World} {Q : Exit → Act → World → Prop},
    evC P A cal inl f lf c s K = some out → StR w0 M ρ s gv a w → (∀ ex s' ρ' a' w', K ex s' = some out → StR w0 M ρ' s' gv a' w' → Q ex.out a' w') → c.wp P Q a w := by
  intro c
  induction c with
  | skip =>
    intro s K ρ a w Q h R hQ
    simp only [evC] at h
    exact wp_skip (hQ .normal s ρ a w h R)
  | region id ops draw =>
    intro s K ρ a w Q h R hQ
    simp only [evC] at h
    split at h
    · rename_i t o n hkp
      obtain ⟨v, s1, ρ1, h1, R1⟩ := partIn_ok h R
      refine region_ok G hcal hinl (K := fun s => partOut v s fun s => K .normal s) h1 R1 fun s' ρ' a' w' hk R' => ?_
      obtain ⟨s2, h2, R2⟩ := partOut_ok hk R'
      exact hQ .normal s2 ρ' a' w' h2 R2
    · exact region_ok G hcal hinl (K := fun s => K .normal s) h R fun s' ρ' a' w' hk R' => hQ .normal s' ρ' a' w' hk R'
  | seq x y ihx ihy =>
    intro s K ρ a w Q h R hQ
    simp only [evC] at h
    refine wp_seq (ihx h R fun ex s' ρ' a' w' hk R' => ?_)
    cases ex with
    | normal =>
      obtain ⟨ρ2, s2, R2, h2⟩ := canonAt_ok R' hk
      exact ihy h2 R2 hQ
    | exit id => exact hQ (.exit id) s' ρ' a' w' hk R'
    | ret => exact hQ .ret s' ρ' a' w' hk R'
  | cond c x y ihx ihy =>
    intro s K ρ a w Q h R hQ
    simp only [evC] at h
    split at h
    · rename_i t ht
      have hc := opd_rep R.fr c
      rw [ht] at hc
      simp only [RepV] at hc
      refine wp_cond (t := t) hc ?_
      cases t with
      | true => exact ihx (by simpa using h) R hQ
      | false => exact ihy (by simpa using h) R hQ
    · cases h
  | block id c ih =>
    intro s K ρ a w Q h R hQ
    simp only [evC] at h
    refine wp_block (ih h R fun ex s' ρ' a' w' hk R' => ?_)
    cases ex with
    | normal => exact hQ .normal s' ρ' a' w' hk R'
    | exit id' =>
      simp only at hk
      simp only [Ex.out, Exit.inBlock]
      cases hb : Nat.beq id' id with
      | true =>
        rw [hb] at hk
        rw [if_pos (Nat.eq_of_beq_eq_true hb)]
        exact hQ .normal s' ρ' a' w' hk R'
      | false =>
        rw [hb] at hk
        rw [if_neg (fun e => by subst e; rw [Nat.beq_refl] at hb; cases hb)]
        exact hQ (.exit id') s' ρ' a' w' hk R'
    | ret => exact hQ .ret s' ρ' a' w' hk R'
  | loop c ih =>
    intro s K ρ a w Q h R hQ
    simp only [evC] at h
    obtain ⟨ρ1, s1, R1, h1⟩ := canonAt_ok R h
    refine wp_loop_fuel (fun k a w => ∃ s ρ, StR w0 M ρ s gv a w ∧ evLoop (evC P A cal inl f lf c) (canonAt A f c) k s K = some out) (fun k a w hI => ?_) ⟨s1, ρ1, R1, h1⟩
    obtain ⟨s, ρ, R, h⟩ := hI
    cases k with
    | zero => simp [evLoop] at h
    | succ k =>
      simp only [evLoop] at h
      refine ih h R fun ex s' ρ' a' w' hk R' => ?_
      cases ex with
      | normal =>
        obtain ⟨ρ2, s2, R2, h2⟩ := canonAt_ok R' hk
        exact ⟨k, Nat.lt_succ_self k, s2, ρ2, R2, h2⟩
      | exit id => exact hQ (.exit id) s' ρ' a' w' hk R'
      | ret => exact hQ .ret s' ρ' a' w' hk R'
  | exit id =>
    intro s K ρ a w Q h R hQ
    simp only [evC] at h
    exact wp_exit (hQ (.exit id) s ρ a w h R)
  | ret =>
    intro s K ρ a w Q h R hQ
    simp only [evC] at h
    exact wp_ret (hQ .ret s ρ a w h R)
  | _ =>
    intro s K ρ a w Q h R hQ
    simp [evC] at h
theorem RepDs.append {w : World} : ∀ {ds ds' : List D} {vs vs' : List Value} {F F' : Feet}, RepDs w ds vs F → RepDs w ds' vs' F' → RepDs w (ds ++ ds') (vs ++ vs') (F ++ F')
  | [], ds', vs, vs', F, F', h, h' => by simp only [RepDs] at h; obtain ⟨rfl, rfl⟩ := h; simpa using h'
  | d :: ds, ds', vs, vs', F, F', h, h' => by
    simp only [RepDs] at h
    obtain ⟨u, us, F1, F2, rfl, rfl, h1, h2⟩ := h
    simp only [List.cons_append, RepDs]
    exact ⟨u, us ++ vs', F1, F2 ++ F', rfl, by simp, h1, h2.append h'⟩
theorem muts_rep {ρ : Env} : ∀ (ms : List Bool) {cs : List AV} {vs : List Value}, RepVs ρ cs vs → RepVs ρ (muts ms cs) (muts ms vs)
  | ms, [], vs, h => by simp only [RepVs] at h; subst h; simp [muts, RepVs]
  | ms, c :: cs, vs, h => by
    simp only [RepVs] at h
    obtain ⟨u, us, rfl, h1, h2⟩ := h
    simp only [muts]
    split
    · exact RepVs.cons h1 (muts_rep ms.tail h2)
    · exact muts_rep ms.tail h2
theorem muts_length {α β : Type} : ∀ (ms : List Bool) {xs : List α} {ys : List β}, xs.length = ys.length → (muts ms xs).length = (muts ms ys).length
  | ms, [], [], _ => by simp [muts]
  | ms, [], _ :: _, h => by simp at h
  | ms, _ :: _, [], h => by simp at h
  | ms, x :: xs, y :: ys, h => by
    simp only [muts]
    have := muts_length ms.tail (xs := xs) (ys := ys) (by simpa using h)
    split <;> simp [this]
theorem sit0_of {α : Type} {p : Prog α} {s : St} {l : List Ac} {v : α} {ρ : Env} {gv : List Value} {a : Act} {w : World} {h' : List Ent} (R : StR w0 M ρ s gv a w) (h1 : Run cal p l v) (h2 : Cons l (ent s.h)) (h5 : ∀ id ∈ news l, s.h.length ≤ id ∧ id < h'.length) (h9 : (news l).Nodup) :
    Sit0 cal p l v ρ (ent s.h) := ⟨h1, h2, fun id hid => R.top id (h5 id hid).1, h9⟩
theorem leave_ok {fn : Func} {w : World} {F : Feet} {ms : List Bool} {ds : List D} {args us : List Value} {s : St} {ρ : Env} {a : Act} {w' : World} {out : List D} (hlen : (muts ms ds).length = (muts ms args).length)
    (R : StR w (ownOf F) ρ s (muts ms args ++ us) a w') (hro : RoVals w (muts ms ds) (muts ms args) us) (h : leave P cal fn (muts ms ds) s = some out) :
    ∃ v, (results fn a.tmps).run P w' = .ok v w' ∧ Post P fn ms ds out args F w (.returned v) w' := by
  unfold leave at h
  obtain ⟨l, v, h', R', W', h1, h2, h3, h4, h5, h6, h7, h8, h9⟩ := runP_run _ h
  have S := sit0_of R h1 h2 h5 h9
  have I := R.inv
  unfold leaveP at S
  obtain ⟨cs, vs, l1, S1, r1, hcs, hres⟩ := loadAll_ok I.ok R.fr fn.results.toList S
  obtain ⟨rs, q1, l2, S2, g1, r2⟩ := gmut_ok cs S1
  obtain ⟨md', q2, l3, S3, g2, r3⟩ := gmut_ok _ S2
  obtain ⟨hchk, S4⟩ := S3.chk
  obtain ⟨rfl, rfl⟩ := S4.ret
  simp only [Bool.and_eq_true] at hchk
  obtain ⟨⟨⟨hsep, hok⟩, hbeq⟩, hal⟩ := hchk
  rw [List.nil_append] at hsep
  have hpl : (muts ms ds).length ≤ s.pn.length := by have := R.pn.length; rw [List.length_append] at this; omega
  have hmut : RepVs ρ (s.pn.take (muts ms ds).length) (muts ms args) := by
    have := R.pn.take (muts ms ds).length
    rwa [List.take_left' (by rw [hlen])] at this
  have hpin : RepVs ρ (s.pn.drop (muts ms ds).length) us := by
    have := R.pn.drop (muts ms ds).length
    rwa [List.drop_left' (by rw [hlen])] at this
  obtain ⟨F1, hF1, hM1⟩ := Gats.rep I.ok cs g1 hcs
  obtain ⟨F2, hF2, hM2⟩ := Gats.rep I.ok _ g2 hmut
  have hM := hM1.append hM2
  have hsame : sameSl (roAts s.h (muts ms ds) (s.pn.take (muts ms ds).length)) (s.pn.drop (muts ms ds).length) = true := by
    cases hc : sameSl (roAts s.h (muts ms ds) (s.pn.take (muts ms ds).length)) (s.pn.drop (muts ms ds).length) with
    | true => rfl
    | false => rw [hc] at h4; cases h4
  rw [hsame] at h4
  simp only [cond_true, Option.some.injEq] at h4
  subst h4
  obtain ⟨hs1, hs2⟩ := sameSl_spec hsame
  have hro' := roAts_rep (w := w') I.ok (muts ms ds) (fun k => hmut.get k) (by rw [hs1]; exact hpin) hs2
  have hl : rs.length = fn.resultTypes.size := Nat.eq_of_beq_eq_true hbeq
  refine ⟨_, results_run hres, vs, F1 ++ F2, rfl, ?_, hF1.append hF2, hM.sep I.ok hsep, I.fr, ?_, ?_, ?_, roVals_same _ hro hro'.1⟩
  · rw [← hl, hF1.length]
  · rintro b off ⟨B, hB, ho, hf⟩
    obtain ⟨id, p, k1, k2, k3, k4⟩ := hM.mem B hB ho
    exact I.own id p k3 k2 b off (k4 _ _ hf)
  · -- the results' types
    have key : ∀ (ts : List TypeId) (rs md : List D), okTs P ts rs = true → okTs P ts (rs ++ md) = true := by
      intro ts
      induction ts with
      | nil => intro rs md _; cases rs <;> cases md <;> rfl
      | cons t ts ih =>
        intro rs md h
        cases rs with
        | nil => simp [okTs] at h
        | cons r rs =>
          simp only [okTs, Bool.and_eq_true, List.cons_append] at h ⊢
          exact ⟨h.1, ih rs md h.2⟩
    exact key _ _ _ hok
  · rw [← hl, List.drop_left]; exact hal
theorem inlD_ok (G : Good P) {cal : Nat → List D → Option (List D)} (ihc : CalOk P A cal) {lf : Nat} : ∀ d, InlOk P (inlD P A cal lf d)
  | 0 => fun w0 M f vs s K out ρ gv a w args h => by simp [inlD] at h
  | d + 1 => fun w0 M f vs s K out ρ gv a w args h R hv => by
      simp only [inlD] at h
      split at h
      · cases h
      · rename_i fn hfn
        split at h
        · cases h
        · rename_i c hc
          refine ⟨fn, hfn, by rw [hc]; rfl, calls_of_wp hfn hc ?_⟩
          have R1 : StR w0 M ρ ⟨vs ++ List.replicate (fn.ntmps - vs.length) .un, s.fr ++ s.pn, s.h⟩ (a.tmps.toList ++ gv) { tmps := args ++ Array.replicate (fn.ntmps - args.size) undef, defers := [] } w := by
            refine ⟨?_, R.fr.append R.pn, R.inv, R.top, rfl⟩
            have hvl := hv.length
            simp only [Array.toList_append, Array.toList_replicate]
            rw [← hvl, Array.length_toList]
            exact hv.append (by simpa using RepVs.un (ρ := ρ) (List.replicate (fn.ntmps - args.size) undef))
          refine evC_ok G ihc (inlD_ok G ihc d) c h R1 fun ex s' ρ' a' w' hk R' => ?_
          have fin : ∀ (hk : (runP cal (loadAll P s'.fr fn.results.toList fun vs => .ret (retV vs)) s'.h [] [] fun v h _ _ => K v ⟨s'.pn.take s.fr.length, s'.pn.drop s.fr.length, h⟩) = some out), a'.defers = [] ∧ ∃ v, (results fn a'.tmps).run P w' = .ok v w' ∧
              ∃ vv v' s'' ρ'', Ending.returned v = .returned vv ∧ K v' s'' = some out ∧ StR w0 M ρ'' s'' gv a w' ∧ RepV ρ'' v' vv := by
            intro hk
            obtain ⟨l, v, h', RR, WW, h1, h2, h3, h4, h5, h6, h7, h8, h9⟩ := runP_run _ hk
            have S := sit0_of R' h1 h2 h5 h9
            obtain ⟨cs, us, l1, S1, r1, hcs, hres⟩ := loadAll_ok R'.inv.ok R'.fr fn.results.toList S
            obtain ⟨e1, rfl⟩ := S1.ret
            obtain ⟨rl, hrl⟩ := r1
            subst e1
            rw [List.append_nil] at hrl
            have happ : appl l (ent s'.h) = ent s'.h := by
              rw [hrl]
              clear hrl
              induction rl with
              | nil => rfl
              | cons x rl ih => simpa [appl] using ih
            refine ⟨R'.calm, _, results_run hres, _, _, _, ρ', rfl, h4, ⟨?_, ?_, ?_, ?_, R.calm⟩, retV_rep hcs⟩
            · have := R'.pn.take s.fr.length
              rwa [List.take_left' R.fr.length] at this
            · have := R'.pn.drop s.fr.length
              rwa [List.drop_left' R.fr.length] at this
            · show Inv w0 M ρ' (ent h') w'
              rw [h3, happ]; exact R'.inv
            · intro id hid
              exact R'.top id (Nat.le_trans h6 hid)
          cases ex with
          | exit id => cases hk
          | normal => exact fin hk
          | ret => exact fin hk
theorem levelC_ok (G : Good P) (hext : ∀ f g, A.ext f = some g → ∀ ds rs, g ds = some rs → Contract P f (A.mode f) ds rs) : ∀ k, CalOk P A (levelC P A k)
  | 0 => fun f ds rs h => by simp [levelC] at h
  | k + 1 => fun f ds rs h => by
      have ihc := levelC_ok G hext k
      simp only [levelC] at h
      split at h
      · rename_i g hg; exact hext f g hg ds rs h
      · split at h
        · cases h
        · rename_i fn hfn
          split at h
          · cases h
          · rename_i c hc
            refine ⟨fn, hfn, by rw [hc]; rfl, fun w args F hr hs => ?_⟩
            obtain ⟨ρ, I, hv, htop⟩ := enter_ok hr hs
            have hvl := hv.length
            have hmv := muts_rep (A.mode f) hv
            have hlen : (muts (A.mode f) ds).length = (muts (A.mode f) args.toList).length := muts_length _ (by rw [hr.length])
            have hml := hmv.length
            obtain ⟨us, hus⟩ := roAts_ex I.ok (muts (A.mode f) ds) hmv
            cases hsame : sameSl (roAts (entDs ds []).2 (muts (A.mode f) ds) (muts (A.mode f) (entDs ds []).1)) (roAts (entDs ds []).2 (muts (A.mode f) ds) (muts (A.mode f) (entDs ds []).1)) with
            | false => rw [hsame] at h; cases h
            | true =>
              rw [hsame] at h
              simp only [cond_true] at h
              have hro := (roAts_rep (w := w) I.ok (muts (A.mode f) ds) (fun k => hmv.get k) hus (sameSl_spec hsame).2).1
              refine calls_of_wp hfn hc ?_
              have R : StR w (ownOf F) ρ (start fn (muts (A.mode f) ds) (muts (A.mode f) (entDs ds []).1) (entDs ds []).1 (entDs ds []).2) (muts (A.mode f) args.toList ++ us) { tmps := args ++ Array.replicate (fn.ntmps - args.size) undef, defers := [] } w := by
                refine ⟨?_, hmv.append hus, I, htop, rfl⟩
                simp only [start, Array.toList_append, Array.toList_replicate]
                rw [← hvl, Array.length_toList]
                exact hv.append (by simpa using RepVs.un (ρ := ρ) (List.replicate (fn.ntmps - args.size) undef))
              refine evC_ok G ihc (inlD_ok G ihc 4) c h R fun ex s' ρ' a' w' hk R' => ?_
              cases ex with
              | exit id => cases hk
              | normal =>
                obtain ⟨v, h1, h2⟩ := leave_ok hlen R' hro hk
                exact ⟨R'.calm, v, h1, h2⟩
              | ret =>
                obtain ⟨v, h1, h2⟩ := leave_ok hlen R' hro hk
                exact ⟨R'.calm, v, h1, h2⟩
theorem level_ok (G : Good P) (hext : ∀ f g, A.ext f = some g → ∀ ds rs, g ds = some rs → Contract P f (A.mode f) ds rs) (k : Nat) : CalOk P A (level P A k).cal ∧ InlOk P (level P A k).inl :=
  ⟨levelC_ok G hext k, inlD_ok G (levelC_ok G hext k) 4⟩
theorem ev_contract (G : Good P) (hext : ∀ f g, A.ext f = some g → ∀ ds rs, g ds = some rs → Contract P f (A.mode f) ds rs) {k f : Nat} {ds rs : List D} (h : ev P A k f ds = some rs) : Contract P f (A.mode f) ds rs :=
  (level_ok G hext k).1 f ds rs h
end
#print axioms ev_contract
end Go.Ev
namespace Go.Ev
set_option linter.unusedSimpArgs false
set_option linter.unusedVariables false
set_option linter.unnecessarySimpa false
open Go Go.RowKit
def wfI (n : Int) : Prop := (Lit.int .i64 n).wf = true
def ETy.fits : ETy → Arr → Prop
  | .int k, .ints k' l => k' = k ∧ ∀ n ∈ l, (Lit.int k n).wf = true
  | .bool, .bools _ => True
  | .str, .strs l => ∀ s ∈ l, s.size ≤ maxLen
  | .r3, .r3 l => ∀ x ∈ l, wfI x.1 ∧ wfI x.2.1 ∧ wfI x.2.2
  | .r4, .r4 l => ∀ x ∈ l, wfI x.1 ∧ wfI x.2.1 ∧ wfI x.2.2.1 ∧ wfI x.2.2.2
  | _, _ => False
def RcFit : RK → RC → Prop
  | .n, .n x => wfI x
  | .is, .is nil l => (∀ n ∈ l, (Lit.int .i64 n).wf = true) ∧ l.length ≤ maxLen ∧ (nil = true → l.length = 0)
  | .r3, .r3 nil l => (∀ x ∈ l, wfI x.1 ∧ wfI x.2.1 ∧ wfI x.2.2) ∧ l.length ≤ maxLen ∧ (nil = true → l.length = 0)
  | _, _ => False
def CTy.fits : CTy → D → Prop
  | .int k, d => ∃ n, d = .int k n ∧ (Lit.int k n).wf = true
  | .bool, d => ∃ b, d = .bool b
  | .str, d => ∃ s, d = .str s ∧ s.size ≤ maxLen
  | .sl (.rows z), d => ∃ nil l, d = .rows nil z l ∧ (∀ r ∈ l, All2 RcFit z r) ∧ l.length ≤ maxLen ∧ (nil = true → l.length = 0)
  | .sl e, d => ∃ nil a, d = .arr false nil a ∧ e.fits a ∧ a.len ≤ maxLen ∧ (nil = true → a.len = 0)
  | _, _ => False
theorem sl_fits {e : ETy} {nil : Bool} {a : Arr} (h0 : ∃ a0, e.arr = some a0) (h1 : e.fits a) (h2 : a.len ≤ maxLen) (h3 : nil = true → a.len = 0) : CTy.fits (.sl e) (.arr false nil a) := by
  cases e <;> first | exact ⟨nil, a, rfl, h1, h2, h3⟩ | (obtain ⟨a0, h⟩ := h0; cases h)
def consec (P : Program) : List Field → Nat → Nat → Bool
  | [], off, tot => off == tot
  | f :: fs, off, tot => f.offset == off && consec P fs (off + P.cellsOf f.type) tot
def flatOk (P : Program) : Nat → TypeId → Bool
  | 0, _ => false
  | n + 1, t => match under P t with
    | .int _ => P.cellsOf t == 1
    | .bool => P.cellsOf t == 1
    | .string => P.cellsOf t == 1
    | .slice e => P.cellsOf t == 1 && flatOk P n e && decide (P.cellsOf e ≠ 0) && (match ctyN P (n + 1) t with
      | [.sl .other] => false
      | _ => true)
    | .struct fs => fs.toList.all (fun f => flatOk P n f.type) && consec P fs.toList 0 (P.cellsOf t)
    | _ => false
theorem build_list {β : Type} {Q : Nat → β → Prop} : ∀ (n : Nat), (∀ i, i < n → ∃ x, Q i x) → ∃ l : List β, l.length = n ∧ ∀ i x, l[i]? = some x → Q i x
  | 0, _ => ⟨[], rfl, fun i x h => by simp at h⟩
  | n + 1, h => by
    obtain ⟨l, hl, hq⟩ := build_list n fun i hi => h i (by omega)
    obtain ⟨x, hx⟩ := h n (by omega)
    refine ⟨l ++ [x], by simp [hl], fun i y hy => ?_⟩
    rcases Nat.lt_or_ge i l.length with hi | hi
    · rw [List.getElem?_append_left hi] at hy; exact hq i y hy
    · have : i = l.length := by
        have := (List.getElem?_eq_some_iff.1 hy).1
        simp at this; omega
      subst this
      simp at hy
      subst hy
      rw [hl]; exact hx
theorem cells_chunks {w : World} {a : Addr} {n : Nat} {cs : List Value} (hn : 0 < n) (h : ∀ i r u, r < n → cs[i * n + r]? = some u → w.cell? (a.add (i * n + r)) = some u) : CellsL w a cs := by
  intro j u hj
  have e : j / n * n + j % n = j := by rw [Nat.mul_comm]; exact Nat.div_add_mod j n
  have := h (j / n) (j % n) u (Nat.mod_lt _ (by omega)) (by rw [e]; exact hj)
  rwa [e] at this
theorem All2.append {α β : Type} {R : α → β → Prop} {l l' : List α} {m m' : List β} (h : All2 R l m) (k : All2 R l' m') : All2 R (l ++ l') (m ++ m') := by
  induction h with
  | nil => exact k
  | cons a b ih => exact .cons a ih
theorem flat_get3 {α : Type} {g : α → List Value} {n : Nat} (hg : ∀ x, (g x).length = n) : ∀ {l : List α} {i r : Nat} {u : Value}, r < n → (l.flatMap g)[i * n + r]? = some u → ∃ x, l[i]? = some x ∧ (g x)[r]? = some u
  | [], i, r, u, hr, h => by simp at h
  | x :: l, 0, r, u, hr, h => by
    rw [List.flatMap_cons, Nat.zero_mul, Nat.zero_add, List.getElem?_append_left (by rw [hg]; exact hr)] at h
    exact ⟨x, rfl, h⟩
  | x :: l, i + 1, r, u, hr, h => by
    rw [List.flatMap_cons, List.getElem?_append_right (by rw [hg, Nat.add_mul]; omega), hg, show (i + 1) * n + r - n = i * n + r by rw [Nat.add_mul]; omega] at h
    obtain ⟨y, h1, h2⟩ := flat_get3 hg hr h
    exact ⟨y, by simpa using h1, h2⟩
section
variable {H : Type} {enc : TypeId × Value → H} {P : Program} {w : World} {base : Nat} {sp : Nat → Bool} {held : Bool}
def Still (F : Feet) : Prop := ∀ A ∈ F, A.1 = false
theorem Still.nil : Still [] := fun A hA => by cases hA
theorem Still.append {F G : Feet} (h : Still F) (k : Still G) : Still (F ++ G) := fun A hA => by
  rcases List.mem_append.1 hA with hA | hA
  · exact h A hA
  · exact k A hA
theorem Still.sep {F : Feet} (h : Still F) : Sep F := by
  induction F with
  | nil => exact .nil
  | cons A F ih =>
    refine .cons (fun B hB hor => ?_) (ih fun B hB => h B (by simp [hB]))
    have h1 := h A (by simp)
    have h2 := h B (by simp [hB])
    rw [h1, h2] at hor
    simp at hor
theorem Still.own {F : Feet} (h : Still F) {b off : Nat} : ¬ ownOf F b off := by
  rintro ⟨A, hA, ho, _⟩
  rw [h A hA] at ho; cases ho
theorem one_rep {d : D} {v : Value} (h : RepD w d v []) : RepDs w [d] [v] [] := by
  simp only [RepDs]; exact ⟨v, [], [], [], rfl, rfl, h, rfl, rfl⟩
theorem one_rep' {d : D} {v : Value} {F : Feet} (h : RepD w d v F) : RepDs w [d] [v] F := by
  simp only [RepDs]; exact ⟨v, [], F, [], rfl, by simp, h, rfl, rfl⟩
/-- an array that is not its own, by its cells -/
theorem arr_open {a : Addr} {len cap : Nat} {ar : Arr} (hl : ar.len = len) (hc : len ≤ cap) (h : CellsL w a ar.cells) : ∃ F, RepD w (.arr false false ar) (.slice (some a) len cap) F ∧ Still F := by
  refine ⟨_, ⟨⟨some a, len, cap, ar.size, []⟩, rfl, ⟨hl, rfl, by simp, by simp, fun x hx => ?_, by simp⟩, rfl⟩, fun A hA => by simp at hA; rw [hA]⟩
  simp only [Option.some.injEq] at hx
  subst hx
  exact ⟨hc, h⟩
/-- a record's cells stand for a record -/
theorem ds_row : ∀ {cs : List CTy} {z : List RK} {ds : List D} {us : List Value} {F : Feet}, rks cs = some z → All2 CTy.fits cs ds → RepDs w ds us F → ∃ r, RowL w z us r ∧ All2 RcFit z r
  | [], z, ds, us, F, hz, hf, hr => by
    cases hf
    simp only [rks, Option.some.injEq] at hz
    subst hz
    simp only [RepDs] at hr
    exact ⟨[], ⟨hr.1, rfl⟩, .nil⟩
  | c :: cs, z, ds, us, F, hz, hf, hr => by
    cases hf with
    | @cons _ d _ ds h1 hf =>
    simp only [RepDs] at hr
    obtain ⟨u, us', F1, F2, rfl, rfl, r1, hr⟩ := hr
    unfold rks at hz
    split at hz
    · rename_i k ks hk hks
      simp only [Option.some.injEq] at hz
      subst hz
      obtain ⟨r, g1, g2⟩ := ds_row hks hf hr
      unfold CTy.rk at hk
      split at hk
      · cases hk
        obtain ⟨n, rfl, hw⟩ := h1
        simp only [RepD] at r1
        exact ⟨.n n :: r, ⟨u, us', _, r, rfl, rfl, r1.1, g1⟩, .cons hw g2⟩
      · cases hk
        obtain ⟨nil, a, rfl, f1, f2, f3⟩ := h1
        cases a with
        | ints k' l =>
          obtain ⟨rfl, f1⟩ := f1
          simp only [RepD] at r1
          obtain ⟨p, rfl, ⟨q1, q2, q3, q4, q5, q6⟩, _⟩ := r1
          exact ⟨.is nil l :: r, ⟨_, us', _, r, rfl, rfl, ⟨_, _, _, rfl, q1, q3, q4, q5⟩, g1⟩, .cons ⟨f1, f2, f3⟩ g2⟩
        | _ => exact f1.elim
      · cases hk
        obtain ⟨nil, a, rfl, f1, f2, f3⟩ := h1
        cases a with
        | r3 l =>
          simp only [RepD] at r1
          obtain ⟨p, rfl, ⟨q1, q2, q3, q4, q5, q6⟩, _⟩ := r1
          exact ⟨.r3 nil l :: r, ⟨_, us', _, r, rfl, rfl, ⟨_, _, _, rfl, q1, q3, q4, q5⟩, g1⟩, .cons ⟨f1, f2, f3⟩ g2⟩
        | _ => exact f1.elim
      · cases hk
    · cases hz
theorem rowsOf {z : List RK} {n : Nat} : ∀ (l : List {x : List Value × List RC // x.1.length = n}), (∀ y ∈ l, RowL w z y.1.1 y.1.2) → RowsL w z (l.map (·.1.1)) (l.map (·.1.2))
  | [], h => rfl
  | y :: l, h => ⟨_, _, rfl, h y (by simp), rowsOf l fun x hx => h x (by simp [hx])⟩
theorem open_cells (m : Nat) : ∀ (t : TypeId) (cs : List Value) (fuel : Nat) (x : DataW H × List MemPlace), flatOk P m t = true → DataW.trod enc P w base sp held fuel t cs = some x →
    ∃ ds F, RepDs w ds cs F ∧ Still F ∧ All2 CTy.fits (ctyN P m t) ds := by
  induction m with
  | zero => intro t cs fuel x h; simp [flatOk] at h
  | succ m ih =>
    intro t cs fuel x h ht
    unfold flatOk at h
    split at h
    · rename_i k hu
      obtain ⟨n, rfl, _, hw⟩ := DataW.trod_int (under_some hu (by simp)) ht
      exact ⟨[.int k n], [], one_rep (by simp [RepD]), Still.nil, by simp only [ctyN, hu]; exact .cons ⟨n, rfl, hw⟩ .nil⟩
    · rename_i hu
      obtain ⟨n, rfl, _⟩ := DataW.trod_bool (under_some hu (by simp)) ht
      exact ⟨[.bool n], [], one_rep (by simp [RepD]), Still.nil, by simp only [ctyN, hu]; exact .cons ⟨n, rfl⟩ .nil⟩
    · rename_i hu
      obtain ⟨s, rfl, _, hw⟩ := DataW.trod_string (under_some hu (by simp)) ht
      exact ⟨[.str s], [], one_rep (by simp [RepD]), Still.nil, by simp only [ctyN, hu]; exact .cons ⟨s, rfl, hw⟩ .nil⟩
    · rename_i e hu
      simp only [Bool.and_eq_true, decide_eq_true_eq, beq_iff_eq] at h
      obtain ⟨⟨⟨h1, h2⟩, h3⟩, h4⟩ := h
      have hun := under_some hu (by simp)
      have key : ∀ (ety : ETy), ctyN P (m + 1) t = [.sl ety] → (∃ ar0, ety.arr = some ar0 ∧ ety.fits ar0) → (∀ (a : Addr) (len : Nat), (∀ i, i < len → ∃ ds c1 F, w.cells? base (a.add (i * P.cellsOf e)) (P.cellsOf e) = some c1 ∧ RepDs w ds c1 F ∧ All2 CTy.fits (ctyN P m e) ds) → ∃ ar : Arr, ar.len = len ∧ ety.fits ar ∧ CellsL w a ar.cells) →
          ∃ ds F, RepDs w ds cs F ∧ Still F ∧ All2 CTy.fits (ctyN P (m + 1) t) ds := by
        intro ety hcty hnil hbuild
        rw [hcty]
        rcases DataW.trod_slice hun ht with ⟨rfl, _⟩ | ⟨a, len, cap, elems, rest, n, _, rfl, _, hb, hl, hm, hel, hE, _⟩
        · obtain ⟨ar0, ha0, hf0⟩ := hnil
          obtain ⟨z1, z2⟩ := arr_of_nil ha0
          refine ⟨[.arr false true ar0], _, one_rep' ⟨⟨none, 0, 0, ar0.size, []⟩, rfl, ?_, rfl⟩, fun A hA => by simp at hA; rw [hA], .cons (sl_fits ⟨ar0, ha0⟩ hf0 (by omega) fun _ => z1) .nil⟩
          exact ⟨z1, rfl, by simp, by simp, by simp, by simp⟩
        · obtain ⟨ar, g1, g2, g3⟩ := hbuild a len fun i hi => by
            have hEi := hE i hi
            rw [List.getElem?_eq_getElem (by omega)] at hEi
            simp only [Option.bind_eq_some_iff] at hEi
            obtain ⟨c1, hc1, hy⟩ := hEi
            obtain ⟨ds, F, k1, _, k3⟩ := ih e c1 n _ h2 hy
            exact ⟨ds, c1, F, hc1, k1, k3⟩
          obtain ⟨F, k1, k2⟩ := arr_open (w := w) (a := a) g1 hl g3
          exact ⟨[.arr false false ar], F, one_rep' k1, k2, .cons (sl_fits (hnil.imp fun _ h => h.1) g2 (by omega) (by simp)) .nil⟩
      -- one cell each
      have one : ∀ {β : Type} (mk : β → Value) (Q : β → Prop) (a : Addr) (len : Nat), P.cellsOf e = 1 → (∀ ds c1 F, RepDs w ds c1 F → All2 CTy.fits (ctyN P m e) ds → ∃ y, c1 = [mk y] ∧ Q y) →
          (∀ i, i < len → ∃ ds c1 F, w.cells? base (a.add (i * P.cellsOf e)) (P.cellsOf e) = some c1 ∧ RepDs w ds c1 F ∧ All2 CTy.fits (ctyN P m e) ds) → ∃ l : List β, l.length = len ∧ (∀ y ∈ l, Q y) ∧ CellsL w a (l.map mk) := by
        intro β mk Q a len h1 hv hE
        obtain ⟨l, hl, hq⟩ := build_list (Q := fun i y => w.cell? (a.add i) = some (mk y) ∧ Q y) len fun i hi => by
          obtain ⟨ds, c1, F, k1, k2, k3⟩ := hE i hi
          obtain ⟨y, rfl, hy⟩ := hv ds c1 F k2 k3
          obtain ⟨_, _, hcell⟩ := World.cells?_some k1
          have := hcell 0 (by omega)
          rw [addr_add_zero, h1, Nat.mul_one] at this
          exact ⟨y, by simpa using this, hy⟩
        refine ⟨l, hl, fun y hy => ?_, fun j u hj => ?_⟩
        · obtain ⟨i, hi, rfl⟩ := List.getElem_of_mem hy
          exact (hq i _ (List.getElem?_eq_getElem hi)).2
        · rw [List.getElem?_map] at hj
          cases hy : l[j]? with
          | none => rw [hy] at hj; cases hj
          | some y => rw [hy] at hj; cases hj; exact (hq j y hy).1
      have many : ∀ {β : Type} (mk : β → List Value) (n : Nat) (Q : β → Prop) (a : Addr) (len : Nat), 0 < n → (∀ y, (mk y).length = n) → (∀ ds c1 F, RepDs w ds c1 F → All2 CTy.fits (ctyN P m e) ds → ∃ y, c1 = mk y ∧ Q y) →
          (∀ i, i < len → ∃ ds c1 F, w.cells? base (a.add (i * P.cellsOf e)) (P.cellsOf e) = some c1 ∧ RepDs w ds c1 F ∧ All2 CTy.fits (ctyN P m e) ds) → ∃ l : List β, l.length = len ∧ (∀ y ∈ l, Q y) ∧ CellsL w a (l.flatMap mk) := by
        intro β mk n Q a len hn hmk hv hE
        obtain ⟨l, hl, hq⟩ := build_list (Q := fun i y => (∀ r u, (mk y)[r]? = some u → w.cell? (a.add (i * n + r)) = some u) ∧ Q y) len fun i hi => by
          obtain ⟨ds, c1, F, k1, k2, k3⟩ := hE i hi
          obtain ⟨y, rfl, hy⟩ := hv ds c1 F k2 k3
          obtain ⟨_, hlen, hcell⟩ := World.cells?_some k1
          rw [hmk] at hlen
          refine ⟨y, fun r u hr => ?_, hy⟩
          have hlt := (List.getElem?_eq_some_iff.1 hr).1
          rw [hmk] at hlt
          have := hcell r (by omega)
          rw [addr_add_add, ← hlen, hr] at this
          exact this
        refine ⟨l, hl, fun y hy => ?_, cells_chunks hn fun i r u hr hj => ?_⟩
        · obtain ⟨i, hi, rfl⟩ := List.getElem_of_mem hy
          exact (hq i _ (List.getElem?_eq_getElem hi)).2
        · obtain ⟨y, h1, h2⟩ := flat_get3 hmk hr hj
          exact (hq i y h1).1 r u h2
      cases m with
      | zero => simp [flatOk] at h2
      | succ m =>
      generalize hcg : ctyN P (m + 1 + 1) t = c at h4 key ⊢
      unfold ctyN at hcg
      rw [hu] at hcg
      simp only at hcg
      split at hcg
      · rename_i _ fs hue hce
        subst hcg
        refine key .r3 rfl ⟨.r3 [], rfl, by simp [ETy.fits]⟩ fun a len hE => ?_
        obtain ⟨l, g1, g2, g3⟩ := many (fun x : Int × Int × Int => [.int .i64 x.1, .int .i64 x.2.1, .int .i64 x.2.2]) 3 (fun x => wfI x.1 ∧ wfI x.2.1 ∧ wfI x.2.2) a len (by omega) (by simp) (fun ds c1 F k1 k2 => by
          rw [hce] at k2
          cases k2 with | cons a1 k2 => cases k2 with | cons a2 k2 => cases k2 with | cons a3 k2 => cases k2 with | nil =>
          obtain ⟨n1, rfl, w1⟩ := a1
          obtain ⟨n2, rfl, w2⟩ := a2
          obtain ⟨n3, rfl, w3⟩ := a3
          simp only [RepDs, RepD] at k1
          obtain ⟨_, _, _, _, rfl, _, ⟨rfl, _⟩, _, _, _, _, rfl, _, ⟨rfl, _⟩, _, _, _, _, rfl, _, ⟨rfl, _⟩, rfl, _⟩ := k1
          exact ⟨(n1, n2, n3), rfl, w1, w2, w3⟩) hE
        exact ⟨.r3 l, g1, g2, g3⟩
      · rename_i _ fs hue hce
        subst hcg
        refine key .r4 rfl ⟨.r4 [], rfl, by simp [ETy.fits]⟩ fun a len hE => ?_
        obtain ⟨l, g1, g2, g3⟩ := many (fun x : Int × Int × Int × Int => [.int .i64 x.1, .int .i64 x.2.1, .int .i64 x.2.2.1, .int .i64 x.2.2.2]) 4 (fun x => wfI x.1 ∧ wfI x.2.1 ∧ wfI x.2.2.1 ∧ wfI x.2.2.2) a len (by omega) (by simp) (fun ds c1 F k1 k2 => by
          rw [hce] at k2
          cases k2 with | cons a1 k2 => cases k2 with | cons a2 k2 => cases k2 with | cons a3 k2 => cases k2 with | cons a4 k2 => cases k2 with | nil =>
          obtain ⟨n1, rfl, w1⟩ := a1
          obtain ⟨n2, rfl, w2⟩ := a2
          obtain ⟨n3, rfl, w3⟩ := a3
          obtain ⟨n4, rfl, w4⟩ := a4
          simp only [RepDs, RepD] at k1
          obtain ⟨_, _, _, _, rfl, _, ⟨rfl, _⟩, _, _, _, _, rfl, _, ⟨rfl, _⟩, _, _, _, _, rfl, _, ⟨rfl, _⟩, _, _, _, _, rfl, _, ⟨rfl, _⟩, rfl, _⟩ := k1
          exact ⟨(n1, n2, n3, n4), rfl, w1, w2, w3, w4⟩) hE
        exact ⟨.r4 l, g1, g2, g3⟩
      · rename_i k hue
        subst hcg
        have hce : ctyN P (m + 1) e = [.int k] := by simp only [ctyN, hue]
        have hc1 : P.cellsOf e = 1 := by unfold flatOk at h2; rw [hue] at h2; simpa using h2
        refine key (.int k) rfl ⟨.ints k [], rfl, by simp [ETy.fits]⟩ fun a len hE => ?_
        obtain ⟨l, g1, g2, g3⟩ := one (fun n : Int => .int k n) (fun n => (Lit.int k n).wf = true) a len hc1 (fun ds c1 F k1 k2 => by
          rw [hce] at k2
          cases k2 with | cons a1 k2 => cases k2 with | nil =>
          obtain ⟨n1, rfl, w1⟩ := a1
          simp only [RepDs, RepD] at k1
          obtain ⟨_, _, _, _, rfl, _, ⟨rfl, _⟩, rfl, _⟩ := k1
          exact ⟨n1, rfl, w1⟩) hE
        exact ⟨.ints k l, g1, ⟨rfl, g2⟩, g3⟩
      · rename_i hue
        subst hcg
        have hce : ctyN P (m + 1) e = [.bool] := by simp only [ctyN, hue]
        have hc1 : P.cellsOf e = 1 := by unfold flatOk at h2; rw [hue] at h2; simpa using h2
        refine key .bool rfl ⟨.bools [], rfl, by simp [ETy.fits]⟩ fun a len hE => ?_
        obtain ⟨l, g1, g2, g3⟩ := one (fun n : Bool => .bool n) (fun n => True) a len hc1 (fun ds c1 F k1 k2 => by
          rw [hce] at k2
          cases k2 with | cons a1 k2 => cases k2 with | nil =>
          obtain ⟨n1, rfl⟩ := a1
          simp only [RepDs, RepD] at k1
          obtain ⟨_, _, _, _, rfl, _, ⟨rfl, _⟩, rfl, _⟩ := k1
          exact ⟨n1, rfl, trivial⟩) hE
        exact ⟨.bools l, g1, trivial, g3⟩
      · rename_i hue
        subst hcg
        have hce : ctyN P (m + 1) e = [.str] := by simp only [ctyN, hue]
        have hc1 : P.cellsOf e = 1 := by unfold flatOk at h2; rw [hue] at h2; simpa using h2
        refine key .str rfl ⟨.strs [], rfl, by simp [ETy.fits]⟩ fun a len hE => ?_
        obtain ⟨l, g1, g2, g3⟩ := one (fun n : ByteArray => .string n) (fun s => s.size ≤ maxLen) a len hc1 (fun ds c1 F k1 k2 => by
          rw [hce] at k2
          cases k2 with | cons a1 k2 => cases k2 with | nil =>
          obtain ⟨n1, rfl, w1⟩ := a1
          simp only [RepDs, RepD] at k1
          obtain ⟨_, _, _, _, rfl, _, ⟨rfl, _⟩, rfl, _⟩ := k1
          exact ⟨n1, rfl, w1⟩) hE
        exact ⟨.strs l, g1, g2, g3⟩
      · cases hz : rks (ctyN P (m + 1) e) with
        | none => rw [hz] at hcg; simp only at hcg; subst hcg; simp at h4
        | some zz =>
        cases zz with
        | nil => rw [hz] at hcg; simp only at hcg; subst hcg; simp at h4
        | cons k0 z0 =>
          rw [hz] at hcg; simp only at hcg
          subst hcg
          rcases DataW.trod_slice hun ht with ⟨rfl, _⟩ | ⟨a, len, cap, elems, rest, n, _, rfl, _, hb, hl, hm, hel, hE, _⟩
          · refine ⟨[.rows true (k0 :: z0) []], _, one_rep' ⟨⟨none, 0, 0, (k0 :: z0).length, []⟩, rfl, ⟨rfl, rfl, by simp, fun _ => ⟨rfl, rfl⟩, fun x hx => by simp at hx, fun h => (by cases h), rfl⟩, rfl⟩, fun A hA => ?_, .cons ⟨true, [], rfl, fun r hr => (by cases hr), by simp, fun _ => rfl⟩ .nil⟩
            simp at hA
            rcases hA with rfl | rfl <;> rfl
          · obtain ⟨l, g1, g2, g3⟩ := many (fun x : {x : List Value × List RC // x.1.length = (k0 :: z0).length} => x.1.1) (k0 :: z0).length (fun x => RowL w (k0 :: z0) x.1.1 x.1.2 ∧ All2 RcFit (k0 :: z0) x.1.2) a len (by simp) (fun y => y.2) (fun ds c1 F k1 k2 => by
              obtain ⟨r, r1, r2⟩ := ds_row hz k2 k1
              exact ⟨⟨(c1, r), r1.len.1⟩, rfl, r1, r2⟩) fun i hi => by
                have hEi := hE i hi
                rw [List.getElem?_eq_getElem (by omega)] at hEi
                simp only [Option.bind_eq_some_iff] at hEi
                obtain ⟨c1, hc1, hy⟩ := hEi
                obtain ⟨ds, F, k1, _, k3⟩ := ih e c1 n _ h2 hy
                exact ⟨ds, c1, F, hc1, k1, k3⟩
            have hR := rowsOf l fun y hy => (g2 y hy).1
            refine ⟨[.rows false (k0 :: z0) (l.map (·.1.2))], _, one_rep' ⟨⟨some a, len, cap, (k0 :: z0).length, l.map (·.1.1)⟩, rfl, ⟨by rw [List.length_map]; exact g1, rfl, by simp, fun h => by simp at h, fun x hx => ?_, fun h => (by cases h), hR⟩, rfl⟩, fun A hA => ?_, .cons ⟨false, _, rfl, fun r hr => ?_, by rw [List.length_map, g1]; omega, fun h => (by cases h)⟩ .nil⟩
            · simp only [Option.some.injEq] at hx
              subst hx
              exact ⟨hl, by rw [← List.flatMap_def]; exact g3⟩
            · simp at hA
              rcases hA with rfl | rfl <;> rfl
            · obtain ⟨y, hy, rfl⟩ := List.mem_map.1 hr
              exact (g2 y hy).2
      · subst hcg
        simp at h4
    · rename_i fs hu
      simp only [Bool.and_eq_true, List.all_eq_true] at h
      obtain ⟨xs, n, _, _, hlen, hxl, hF⟩ := DataW.trod_struct (under_some hu (by simp)) ht
      have main : ∀ (fl : List Field) (off : Nat), (∀ f ∈ fl, flatOk P m f.type = true) → consec P fl off (P.cellsOf t) = true → (∀ f ∈ fl, ∃ y, DataW.trod enc P w base sp held n f.type ((cs.drop f.offset).take (P.cellsOf f.type)) = some y) →
          ∃ ds F, RepDs w ds (cs.drop off) F ∧ Still F ∧ All2 CTy.fits (fl.flatMap fun f => ctyN P m f.type) ds := by
        intro fl
        induction fl with
        | nil =>
          intro off _ hc _
          simp only [consec, beq_iff_eq] at hc
          refine ⟨[], [], ?_, Still.nil, .nil⟩
          rw [List.drop_of_length_le (by omega)]
          exact ⟨rfl, rfl⟩
        | cons f fl ihf =>
          intro off hfl hc hy
          simp only [consec, Bool.and_eq_true, beq_iff_eq] at hc
          obtain ⟨y, hy1⟩ := hy f (by simp)
          obtain ⟨ds1, F1, k1, k2, k3⟩ := ih f.type _ n y (hfl f (by simp)) hy1
          obtain ⟨ds2, F2, l1, l2, l3⟩ := ihf (off + P.cellsOf f.type) (fun f hf => hfl f (by simp [hf])) hc.2 (fun f hf => hy f (by simp [hf]))
          refine ⟨ds1 ++ ds2, F1 ++ F2, ?_, k2.append l2, ?_⟩
          · rw [← hc.1] at l1
            have := k1.append l1
            rw [hc.1] at this
            rw [← List.drop_drop, List.take_append_drop] at this
            exact this
          · rw [List.flatMap_cons]
            exact k3.append l3
      obtain ⟨ds, F, k1, k2, k3⟩ := main fs.toList 0 h.1 h.2 (fun f hf => by
        obtain ⟨i, hi, rfl⟩ := List.getElem_of_mem hf
        have := hF i fs.toList[i] (by simp at hi ⊢)
        rw [this]
        exact ⟨_, List.getElem?_eq_getElem (by rw [hxl]; simpa using hi)⟩)
      exact ⟨ds, F, by simpa using k1, k2, by simpa only [ctyN, hu] using k3⟩
    · cases h
end
end Go.Ev
