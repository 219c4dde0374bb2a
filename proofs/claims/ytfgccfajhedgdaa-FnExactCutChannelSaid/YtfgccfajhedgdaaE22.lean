/- The evaluator: what a turned argument keeps; code. -/
import Derived.Test.YtfgccfajhedgdaaE21
namespace Go.Ev
set_option linter.unusedSimpArgs false
set_option linter.unusedVariables false
set_option linter.unnecessarySimpa false
open Go Go.RowKit
def roNc : List D → Nat
  | [] => 0
  | .arr false _ _ :: l => roNc l + 1
  | _ :: l => roNc l
mutual
def roN : D → Nat
  | .ptr _ l => roNc l
  | .fn _ l => roNs l
  | .agg l => roNs l
  | _ => 0
def roNs : List D → Nat
  | [] => 0
  | d :: ds => roN d + roNs ds
end
def RoCells (w : World) : List D → Addr → Nat → List Value → Prop
  | [], _, _, us => us = []
  | .arr false _ _ :: l, x, j, us => ∃ u us', us = u :: us' ∧ w.cell? (x.add j) = some u ∧ RoCells w l x (j + 1) us'
  | _ :: l, x, j, us => RoCells w l x (j + 1) us
mutual
def RoVal (w : World) : D → Value → List Value → Prop
  | .ptr _ l, v, us => ∀ x, v = .pointer (some x) → RoCells w l x 0 us
  | .fn _ l, v, us => ∀ f ps vs, v = .func f ps vs → RoVals w l vs.toList us
  | .agg l, v, us => ∀ vs, v = .agg vs → RoVals w l vs.toList us
  | _, _, us => us = []
def RoVals (w : World) : List D → List Value → List Value → Prop
  | [], _, us => us = []
  | d :: ds, vs, us => ∃ u1 u2, us = u1 ++ u2 ∧ u1.length = roN d ∧ ∀ v vs', vs = v :: vs' → RoVal w d v u1 ∧ RoVals w ds vs' u2
end
theorem roCells_same {w w' : World} {x : Addr} : ∀ {l : List D} {j : Nat} {us : List Value}, RoCells w l x j us → RoCells w' l x j us → ∀ (k : Nat) nil a, l[k]? = some (.arr false nil a) → w'.cell? (x.add (j + k)) = w.cell? (x.add (j + k))
  | [], j, us, h, h', k, nil, a, e => by simp at e
  | d :: l, j, us, h, h', k, nil, a, e => by
    have step : ∀ us', RoCells w l x (j + 1) us' → RoCells w' l x (j + 1) us' → ∀ k, k ≠ 0 → (d :: l)[k]? = some (.arr false nil a) → w'.cell? (x.add (j + k)) = w.cell? (x.add (j + k)) := by
      intro us' h1 h2 k hk e
      cases k with
      | zero => exact absurd rfl hk
      | succ k =>
        have := roCells_same h1 h2 k nil a (by simpa using e)
        rw [show j + 1 + k = j + (k + 1) by omega] at this
        exact this
    by_cases hd : ∃ nil a, d = .arr false nil a
    · obtain ⟨nil', a', rfl⟩ := hd
      simp only [RoCells] at h h'
      obtain ⟨u, us1, rfl, c1, r1⟩ := h
      obtain ⟨u', us2, he, c2, r2⟩ := h'
      cases he
      by_cases hk : k = 0
      · subst hk; rw [Nat.add_zero, c1, c2]
      · exact step us1 r1 r2 k hk e
    · have hk : k ≠ 0 := by rintro rfl; simp at e; exact hd ⟨_, _, e⟩
      have g : RoCells w l x (j + 1) us ∧ RoCells w' l x (j + 1) us := by
        cases d with
        | arr o n b => cases o with
          | false => exact absurd ⟨n, b, rfl⟩ hd
          | true => exact ⟨by simpa only [RoCells] using h, by simpa only [RoCells] using h'⟩
        | _ => exact ⟨by simpa only [RoCells] using h, by simpa only [RoCells] using h'⟩
      exact step us g.1 g.2 k hk e
mutual
theorem roVal_same {w w' : World} : ∀ (d : D) {v : Value} {us : List Value}, RoVal w d v us → RoVal w' d v us → Ro w w' d v
  | .ptr _ l, v, us, h, h' => by
    simp only [RoVal, Ro] at h h' ⊢
    intro x hx j nil a e
    have := roCells_same (h x hx) (h' x hx) j nil a e
    simpa using this
  | .fn _ l, v, us, h, h' => by
    simp only [RoVal, Ro] at h h' ⊢
    intro f ps vs hv
    exact roVals_same l (h f ps vs hv) (h' f ps vs hv)
  | .int _ _, v, us, h, h' => by simp only [Ro]
  | .bool _, v, us, h, h' => by simp only [Ro]
  | .str _, v, us, h, h' => by simp only [Ro]
  | .arr _ _ _, v, us, h, h' => by simp only [Ro]
  | .agg l, v, us, h, h' => by
    simp only [RoVal, Ro] at h h' ⊢
    intro vs hv
    exact roVals_same l (h vs hv) (h' vs hv)
theorem roVals_same {w w' : World} : ∀ (ds : List D) {vs us : List Value}, RoVals w ds vs us → RoVals w' ds vs us → Ros w w' ds vs
  | [], vs, us, h, h' => by simp only [Ros]
  | d :: ds, vs, us, h, h' => by
    simp only [RoVals, Ros] at h h' ⊢
    obtain ⟨u1, u2, rfl, hl, h⟩ := h
    obtain ⟨v1, v2, he, hl', h'⟩ := h'
    obtain ⟨rfl, rfl⟩ := List.append_inj he (by rw [hl, hl'])
    intro u us hu
    exact ⟨roVal_same d (h u us hu).1 (h' u us hu).1, roVals_same ds (h u us hu).2 (h' u us hu).2⟩
end
theorem sameSl_spec : ∀ {xs ys : List AV}, sameSl xs ys = true → xs = ys ∧ ∀ c ∈ xs, ∃ i, c = .sl i none
  | [], [], _ => ⟨rfl, fun c hc => by cases hc⟩
  | [], _ :: _, h => by simp [sameSl] at h
  | x :: xs, [], h => by cases x <;> simp [sameSl] at h
  | x :: xs, y :: ys, h => by
    unfold sameSl at h
    split at h
    · rename_i he _; cases he
    · rename_i i xs' j ys' e1 e2
      cases e1; cases e2
      simp only [Bool.and_eq_true] at h
      have hij := Nat.eq_of_beq_eq_true h.1
      subst hij
      obtain ⟨h1, h2⟩ := sameSl_spec h.2
      subst h1
      refine ⟨rfl, fun c hc => ?_⟩
      rcases List.mem_cons.1 hc with rfl | hc
      · exact ⟨i, rfl⟩
      · exact h2 c hc
    · cases h
section
variable {ρ : Env} {h : List Ent} {w : World}
theorem roCells_ex {ρ : Env} : ∀ (l : List D) {cs : List AV} {vals : List Value}, RepVs ρ cs vals → ∃ us, RepVs ρ (roCells l cs) us
  | [], cs, vals, r => ⟨[], by simp [roCells, RepVs]⟩
  | d :: l, cs, vals, r => by
    have rt : ∃ vals', RepVs ρ cs.tail vals' := by
      cases cs with
      | nil => exact ⟨[], by simp [RepVs]⟩
      | cons c cs => simp only [RepVs] at r; obtain ⟨u, us, _, _, h⟩ := r; exact ⟨us, h⟩
    have rh : ∃ u, RepV ρ (cs.headD .un) u := by
      cases cs with
      | nil => exact ⟨undef, by simp [RepV]⟩
      | cons c cs => simp only [RepVs] at r; obtain ⟨u, us, _, h, _⟩ := r; exact ⟨u, h⟩
    obtain ⟨vals', rt⟩ := rt
    obtain ⟨us, hus⟩ := roCells_ex l rt
    by_cases hd : ∃ nil a, d = .arr false nil a
    · obtain ⟨nil', a', rfl⟩ := hd
      obtain ⟨u, hu⟩ := rh
      exact ⟨u :: us, by simp only [roCells]; exact RepVs.cons hu hus⟩
    · refine ⟨us, ?_⟩
      cases d with
      | arr o n b => cases o with
        | false => exact absurd ⟨n, b, rfl⟩ hd
        | true => simpa only [roCells] using hus
      | _ => simpa only [roCells] using hus
theorem roCells_rep {x : Addr} : ∀ (l : List D) {cs : List AV} {vals us : List Value} {j : Nat}, RepVs ρ cs vals → (∀ (k : Nat) u, vals[k]? = some u → w.cell? (x.add (j + k)) = some u) → RepVs ρ (roCells l cs) us →
    (∀ c ∈ roCells l cs, ∃ i, c = .sl i none) → RoCells w l x j us ∧ us.length = roNc l
  | [], cs, vals, us, j, r, hc, hu, hs => by simp only [roCells, RepVs] at hu; subst hu; exact ⟨rfl, rfl⟩
  | d :: l, cs, vals, us, j, r, hc, hu, hs => by
    have rt : ∃ vals', RepVs ρ cs.tail vals' ∧ ∀ (k : Nat) u, vals'[k]? = some u → w.cell? (x.add (j + 1 + k)) = some u := by
      cases cs with
      | nil => exact ⟨[], by simp [RepVs], fun k u h => by simp at h⟩
      | cons c cs =>
        simp only [RepVs] at r
        obtain ⟨u, us, rfl, _, h⟩ := r
        exact ⟨us, h, fun k u' hk => by have := hc (k + 1) u' (by simpa using hk); rw [show j + 1 + k = j + (k + 1) by omega]; exact this⟩
    obtain ⟨vals', rt, hct⟩ := rt
    by_cases hd : ∃ nil a, d = .arr false nil a
    · obtain ⟨nil', a', rfl⟩ := hd
      simp only [roCells, RepVs] at hu
      obtain ⟨u, us', rfl, h1, h2⟩ := hu
      simp only [roCells] at hs
      obtain ⟨i, hi⟩ := hs (cs.headD .un) (by simp)
      cases cs with
      | nil => simp at hi
      | cons c cs =>
        simp only [List.headD_cons] at hi h1
        subst hi
        simp only [RepVs] at r
        obtain ⟨v0, vs0, rfl, hv0, _⟩ := r
        simp only [RepV, RepSl] at h1 hv0
        obtain ⟨p, hp, hu⟩ := h1
        obtain ⟨p', hp', hv⟩ := hv0
        rw [hp] at hp'; cases hp'
        obtain ⟨g1, g2⟩ := roCells_rep l rt hct h2 (fun c hc => hs c (by simp only [List.mem_cons]; exact .inr hc))
        have hcell := hc 0 v0 (by simp)
        rw [Nat.add_zero, hv, ← hu] at hcell
        exact ⟨by simp only [RoCells]; exact ⟨u, us', rfl, hcell, g1⟩, by simp [roNc, g2]⟩
    · have g : RepVs ρ (roCells l cs.tail) us ∧ (∀ c ∈ roCells l cs.tail, ∃ i, c = .sl i none) ∧ (RoCells w (d :: l) x j us ↔ RoCells w l x (j + 1) us) ∧ roNc (d :: l) = roNc l := by
        cases d with
        | arr o n b => cases o with
          | false => exact absurd ⟨n, b, rfl⟩ hd
          | true => exact ⟨by simpa only [roCells] using hu, by simpa only [roCells] using hs, by simp only [RoCells], by simp only [roNc]⟩
        | _ => exact ⟨by simpa only [roCells] using hu, by simpa only [roCells] using hs, by simp only [RoCells], by simp only [roNc]⟩
      obtain ⟨g1, g2⟩ := roCells_rep l rt hct g.1 g.2.1
      exact ⟨g.2.2.1.2 g1, by rw [g.2.2.2]; exact g2⟩
mutual
theorem roAt_ex (I : HeapOk ρ (ent h) w) : ∀ (d : D) {c : AV} {v : Value}, RepV ρ c v → ∃ us, RepVs ρ (roAt h d c) us
  | .ptr _ l, c, v, r => by
    have nilc : ∃ us, RepVs ρ (roCells l []) us := roCells_ex l (vals := []) (by simp [RepVs])
    simp only [roAt]
    cases c with
    | ptr id i o =>
      simp only
      split
      · rename_i own cs hg
        obtain ⟨p, hp, hr⟩ := I.rep id (by rw [hg]; simp)
        rw [hg] at hr
        obtain ⟨_, x, vs, _, _, hv, _⟩ := hr
        exact roCells_ex l (hv.drop o)
      · exact nilc
    | _ => exact nilc
  | .fn _ l, c, v, r => by
    have nilc : ∃ us, RepVs ρ (roAts h l []) us := roAts_ex I l (vs := []) (by simp [RepVs])
    simp only [roAt]
    cases c with
    | fn f cs => simp only [RepV] at r; obtain ⟨vs, rfl, r⟩ := r; exact roAts_ex I l r
    | _ => exact nilc
  | .int _ _, c, v, r => ⟨[], by simp [roAt, RepVs]⟩
  | .bool _, c, v, r => ⟨[], by simp [roAt, RepVs]⟩
  | .str _, c, v, r => ⟨[], by simp [roAt, RepVs]⟩
  | .arr _ _ _, c, v, r => ⟨[], by simp [roAt, RepVs]⟩
  | .agg l, c, v, r => by
    have nilc : ∃ us, RepVs ρ (roAts h l []) us := roAts_ex I l (vs := []) (by simp [RepVs])
    simp only [roAt]
    cases c with
    | agg cs => simp only [RepV] at r; obtain ⟨vs, rfl, r⟩ := r; exact roAts_ex I l r
    | _ => exact nilc
theorem roAts_ex (I : HeapOk ρ (ent h) w) : ∀ (ds : List D) {cs : List AV} {vs : List Value}, RepVs ρ cs vs → ∃ us, RepVs ρ (roAts h ds cs) us
  | [], cs, vs, r => ⟨[], by simp [roAts, RepVs]⟩
  | d :: ds, cs, vs, r => by
    simp only [roAts]
    cases cs with
    | nil =>
      obtain ⟨u1, h1⟩ := roAt_ex I d (c := .un) (v := undef) (by simp [RepV])
      obtain ⟨u2, h2⟩ := roAts_ex I ds (cs := []) (vs := []) (by simp [RepVs])
      exact ⟨u1 ++ u2, by simpa using h1.append h2⟩
    | cons c cs =>
      simp only [RepVs] at r
      obtain ⟨v, vs, rfl, r1, r2⟩ := r
      obtain ⟨u1, h1⟩ := roAt_ex I d r1
      obtain ⟨u2, h2⟩ := roAts_ex I ds r2
      exact ⟨u1 ++ u2, by simpa using h1.append h2⟩
end
mutual
theorem roAt_rep (I : HeapOk ρ (ent h) w) : ∀ (d : D) {c : AV} {v : Value} {us : List Value}, RepV ρ c v → RepVs ρ (roAt h d c) us → (∀ c' ∈ roAt h d c, ∃ i, c' = .sl i none) → RoVal w d v us ∧ us.length = roN d
  | .ptr _ l, c, v, us, r, hu, hs => by
    have nilc : RepVs ρ (roCells l []) us → (∀ c' ∈ roCells l [], ∃ i, c' = .sl i none) → RoVal w (.ptr true l) v us ∧ us.length = roN (.ptr true l) := by
      intro h1 h2
      have g := fun x => roCells_rep (w := w) (x := x) (j := 0) l (cs := []) (vals := []) (by simp [RepVs]) (fun k u h => by simp at h) h1 h2
      exact ⟨by simp only [RoVal]; exact fun x hx => (g x).1, by simp only [roN]; exact (g default).2⟩
    simp only [RoVal, roN] at nilc ⊢
    simp only [roAt] at hu hs
    cases c with
    | ptr id i o =>
      simp only at hu hs
      split at hu
      · rename_i own cs hg
        rw [hg] at hs
        simp only at hs
        simp only [RepV] at r
        obtain ⟨p, a, hp, hb, hi, rfl⟩ := r
        obtain ⟨p', hp', hr⟩ := I.rep id (by rw [hg]; simp)
        rw [hp] at hp'; cases hp'
        rw [hg] at hr
        obtain ⟨k1, x, vs, k2, k3, k4, k5, _⟩ := hr
        rw [hb] at k2; cases k2
        have hi0 : i = 0 := by omega
        subst hi0
        have g := roCells_rep (w := w) (x := a.add (0 * p.size + o)) (j := 0) l (k4.drop o) (fun k u hk => by
          rw [addr_add_add]
          rw [List.getElem?_drop] at hk
          rw [show 0 * p.size + o + (0 + k) = o + k by omega]
          exact k5 _ u hk) hu hs
        exact ⟨fun x hx => by cases hx; exact g.1, g.2⟩
      · rename_i hne
        split at hs
        · rename_i own cs hg; exact absurd hg (hne own cs)
        · exact nilc hu hs
    | _ => exact nilc hu hs
  | .fn _ l, c, v, us, r, hu, hs => by
    simp only [RoVal, roN]
    simp only [roAt] at hu hs
    have nilc : RepVs ρ (roAts h l []) us → (∀ c' ∈ roAts h l [], ∃ i, c' = .sl i none) → (∀ f ps vs, v = .func f ps vs → RoVals w l vs.toList us) ∧ us.length = roNs l := by
      intro h1 h2
      have g := fun vs => roAts_rep I l (cs := []) (vs := vs) (us := us) (by intro k; simp [RepV]) h1 h2
      exact ⟨fun f ps vs _ => (g _).1, (g []).2⟩
    cases c with
    | fn f cs =>
      simp only [RepV] at r
      obtain ⟨vs, rfl, r⟩ := r
      have g := roAts_rep I l (us := us) (fun k => r.get k) hu hs
      exact ⟨fun f ps vs' hv => by cases hv; exact g.1, g.2⟩
    | _ => exact nilc hu hs
  | .int _ _, c, v, us, r, hu, hs => by simp only [roAt, RepVs] at hu; subst hu; exact ⟨by simp only [RoVal], by simp only [roN, List.length_nil]⟩
  | .bool _, c, v, us, r, hu, hs => by simp only [roAt, RepVs] at hu; subst hu; exact ⟨by simp only [RoVal], by simp only [roN, List.length_nil]⟩
  | .str _, c, v, us, r, hu, hs => by simp only [roAt, RepVs] at hu; subst hu; exact ⟨by simp only [RoVal], by simp only [roN, List.length_nil]⟩
  | .arr _ _ _, c, v, us, r, hu, hs => by simp only [roAt, RepVs] at hu; subst hu; exact ⟨by simp only [RoVal], by simp only [roN, List.length_nil]⟩
  | .agg l, c, v, us, r, hu, hs => by
    simp only [RoVal, roN]
    simp only [roAt] at hu hs
    have nilc : RepVs ρ (roAts h l []) us → (∀ c' ∈ roAts h l [], ∃ i, c' = .sl i none) → (∀ vs, v = .agg vs → RoVals w l vs.toList us) ∧ us.length = roNs l := by
      intro h1 h2
      have g := fun vs => roAts_rep I l (cs := []) (vs := vs) (us := us) (by intro k; simp [RepV]) h1 h2
      exact ⟨fun vs _ => (g _).1, (g []).2⟩
    cases c with
    | agg cs =>
      simp only [RepV] at r
      obtain ⟨vs, rfl, r⟩ := r
      have g := roAts_rep I l (us := us) (fun k => r.get k) hu hs
      exact ⟨fun vs' hv => by cases hv; exact g.1, g.2⟩
    | _ => exact nilc hu hs
theorem roAts_rep (I : HeapOk ρ (ent h) w) : ∀ (ds : List D) {cs : List AV} {vs us : List Value}, (∀ k, RepV ρ (cs.getD k .un) (vs.getD k undef)) → RepVs ρ (roAts h ds cs) us → (∀ c' ∈ roAts h ds cs, ∃ i, c' = .sl i none) → RoVals w ds vs us ∧ us.length = roNs ds
  | [], cs, vs, us, r, hu, hs => by simp only [roAts, RepVs] at hu; subst hu; exact ⟨by simp only [RoVals], rfl⟩
  | d :: ds, cs, vs, us, r, hu, hs => by
    simp only [roAts] at hu hs
    obtain ⟨s1, s2⟩ := hu.split
    have e0 : cs.headD .un = cs.getD 0 .un := by cases cs <;> rfl
    have et : ∀ k, cs.tail.getD k .un = cs.getD (k + 1) .un := by intro k; cases cs <;> simp
    have vt : ∀ k, vs.tail.getD k undef = vs.getD (k + 1) undef := by intro k; cases vs <;> simp
    have g1 := roAt_rep I d (v := vs.getD 0 undef) (by rw [e0]; exact r 0) s1 (fun c hc => hs c (List.mem_append_left _ hc))
    have g2 := roAts_rep I ds (cs := cs.tail) (vs := vs.tail) (fun k => by rw [et, vt]; exact r (k + 1)) s2 (fun c hc => hs c (List.mem_append_right _ hc))
    refine ⟨?_, ?_⟩
    · simp only [RoVals]
      refine ⟨_, _, (List.take_append_drop _ us).symm, g1.2, fun v vs' hv => ?_⟩
      subst hv
      exact ⟨by simpa using g1.1, by simpa using g2.1⟩
    · have := g1.2; have := g2.2
      have hl := congrArg List.length (List.take_append_drop (roAt h d (cs.headD .un)).length us)
      rw [List.length_append] at hl
      simp only [roNs]; omega
end
end
end Go.Ev
