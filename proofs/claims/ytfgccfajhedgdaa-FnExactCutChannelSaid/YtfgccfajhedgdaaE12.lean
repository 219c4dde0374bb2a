/- The evaluator: what data stands for in memory; entering with data. -/
import Derived.Test.YtfgccfajhedgdaaE11
namespace Go.Ev
set_option linter.unusedSimpArgs false
set_option linter.unusedVariables false
open Go Go.RowKit
abbrev Feet := List (Bool × (Nat → Nat → Prop))
def boxFoot (x : Addr) (n : Nat) : Nat → Nat → Prop := fun b off => x.block = b ∧ x.off ≤ off ∧ off < x.off + n
theorem foot_box {x : Addr} {p : Plc} {own : Bool} {cs : List AV} (h : p.base = some x) {b off : Nat} : foot p (.box own cs) b off ↔ boxFoot x cs.length b off := by
  simp only [foot, boxFoot, h, Option.some.injEq, exists_eq_left']
mutual
def RepD (w : World) : D → Value → Feet → Prop
  | .int k n, v, F => v = .int k n ∧ F = []
  | .bool b, v, F => v = .bool b ∧ F = []
  | .str s, v, F => v = .string s ∧ F = []
  | .arr own nil a, v, F => ∃ p : Plc, v = .slice p.base p.len p.cap ∧ RepE (fun _ => none) w p (.arr own nil a) ∧ F = [(own, foot p (.arr own nil a))]
  | .agg l, v, F => ∃ vs, v = .agg vs ∧ RepDs w l vs.toList F
  | .ptr own l, v, F => ∃ x vs F', v = .pointer (some x) ∧ x.spot = none ∧ RepDs w l vs F' ∧ CellsL w x vs ∧ (own = true → Thawed w x vs.length) ∧ F = F' ++ [(own, boxFoot x l.length)]
  | .fn f l, v, F => ∃ vs, v = .func (.func f) #[] vs ∧ RepDs w l vs.toList F
def RepDs (w : World) : List D → List Value → Feet → Prop
  | [], vs, F => vs = [] ∧ F = []
  | d :: ds, vs, F => ∃ u us F1 F2, vs = u :: us ∧ F = F1 ++ F2 ∧ RepD w d u F1 ∧ RepDs w ds us F2
end
theorem RepDs.length {w : World} : ∀ {ds : List D} {vs : List Value} {F : Feet}, RepDs w ds vs F → vs.length = ds.length
  | [], vs, F, h => by simp only [RepDs] at h; simp [h.1]
  | d :: ds, vs, F, h => by
    simp only [RepDs] at h
    obtain ⟨u, us, F1, F2, rfl, rfl, h1, h2⟩ := h
    simp [h2.length]
def Apart (A B : Nat → Nat → Prop) : Prop := ∀ b off, A b off → ¬ B b off
def Sep (F : Feet) : Prop := F.Pairwise fun A B => A.1 = true ∨ B.1 = true → Apart A.2 B.2
def ownOf (F : Feet) : Nat → Nat → Prop := fun b off => ∃ A ∈ F, A.1 = true ∧ A.2 b off

/-- an entry is laid where none was -/
theorem Inv.put {w0 : World} {M : Nat → Nat → Prop} {ρ ρ' : Env} {g : Hp} {w : World} (I : Inv w0 M ρ g w) {id : Nat} {p : Plc} {e : Ent} (hs : Sub ρ ρ') (ho : ∀ i, i ≠ id → ρ' i = ρ i) (hp : ρ' id = some p)
    (hd : g id = .dead) (hr : RepE ρ' w p e) (hdis : ∀ j q, j ≠ id → ρ j = some q → (e.own = true ∨ (g j).own = true) → Apart (foot p e) (foot q (g j)))
    (hown : e.own = true → ∀ b off, foot p e b off → M b off ∨ w0.heap.size ≤ b) : Inv w0 M ρ' (upd g id e) w := by
  refine ⟨⟨?_, ?_⟩, I.fr, ?_⟩
  · intro i hi
    by_cases hii : i = id
    · subst hii; rw [upd_same] at hi ⊢; exact ⟨p, hp, hr⟩
    · rw [upd_other _ _ hii] at hi ⊢
      obtain ⟨q, hq, hrq⟩ := I.ok.rep i hi
      exact ⟨q, hs _ _ hq, hrq.mono hs⟩
  · intro i j q r hij hq hrr ho' b off hf hf'
    by_cases hii : i = id
    · subst hii
      rw [hp] at hq; cases hq
      rw [upd_same] at ho' hf
      have hji : j ≠ i := Ne.symm hij
      rw [ho _ hji] at hrr
      rw [upd_other _ _ hji] at hf'
      exact hdis j r hji hrr (.inl ho') b off hf hf'
    · rw [ho _ hii] at hq
      rw [upd_other _ _ hii] at ho' hf
      by_cases hjj : j = id
      · subst hjj
        rw [hp] at hrr; cases hrr
        rw [upd_same] at hf'
        exact hdis i q hii hq (.inr ho') b off hf' hf
      · rw [ho _ hjj] at hrr
        rw [upd_other _ _ hjj] at hf'
        exact I.ok.sep i j q r hij hq hrr ho' b off hf hf'
  · intro i q hq ho' b off hf
    by_cases hii : i = id
    · subst hii
      rw [hp] at hq; cases hq
      rw [upd_same] at ho' hf
      exact hown ho' b off hf
    · rw [ho _ hii] at hq
      rw [upd_other _ _ hii] at ho' hf
      exact I.own i q hq ho' b off hf

/-- some entries are out (S); the memory F waits to be taken in -/
def kills (S : List Nat) (g : Hp) : Hp := fun id => if id ∈ S then .dead else g id
theorem kills_nil (g : Hp) : kills [] g = g := by funext id; simp [kills]
structure Pend (st : Bool) (w0 : World) (M : Nat → Nat → Prop) (ρ : Env) (g : Hp) (S : List Nat) (F : Feet) (w : World) : Prop where
  inv : Inv w0 M ρ (kills S g) w
  known : ∀ id ∈ S, ρ id ≠ none
  nodup : S.Nodup
  sep : Sep F
  dis : ∀ A ∈ F, ∀ id p, ρ id = some p → (A.1 = true ∨ (st = true ∧ (kills S g id).own = true)) → Apart A.2 (foot p (kills S g id))
  own : ∀ A ∈ F, A.1 = true → ∀ b off, A.2 b off → M b off ∨ w0.heap.size ≤ b
section
variable {st : Bool} {w0 : World} {M : Nat → Nat → Prop} {ρ : Env} {g : Hp} {S : List Nat} {F : Feet} {w : World}
theorem Pend.skip {F1 : Feet} (h : Pend st w0 M ρ g S (F1 ++ F) w) : Pend st w0 M ρ g S F w :=
  ⟨h.inv, h.known, h.nodup, (List.pairwise_append.1 h.sep).2.1, fun A hA => h.dis A (List.mem_append_right _ hA), fun A hA => h.own A (List.mem_append_right _ hA)⟩
theorem Pend.new {A : Bool × (Nat → Nat → Prop)} (h : Pend st w0 M ρ g S (A :: F) w) {id : Nat} {p : Plc} {e : Ent} (hid : ρ id = none) (hr : RepE (updρ ρ id p) w p e) (he : e.own = A.1) (hst : st = true ∨ A.1 = true)
    (hf : ∀ b off, foot p e b off → A.2 b off) : Pend st w0 M (updρ ρ id p) (upd g id e) S F w := by
  have hS : id ∉ S := fun hi => h.known id hi hid
  have hk : kills S (upd g id e) = upd (kills S g) id e := by
    funext i
    by_cases hii : i = id
    · subst hii; simp [kills, hS]
    · simp only [kills, upd_other _ _ hii]
  have hdead : kills S g id = .dead := by
    by_cases hd : kills S g id = .dead
    · exact hd
    · obtain ⟨q, hq, _⟩ := h.inv.ok.rep id hd
      rw [hid] at hq; cases hq
  have hsep := List.pairwise_cons.1 h.sep
  refine ⟨?_, ?_, h.nodup, hsep.2, ?_, fun B hB => h.own B (by simp [hB])⟩
  · rw [hk]
    refine h.inv.put (sub_updρ hid) (fun i hi => updρ_other _ _ hi) (updρ_same _ _ _) hdead hr (fun j q hj hq ho b off h1 h2 => ?_) (fun ho b off h1 => h.own A (by simp) (he ▸ ho) b off (hf _ _ h1))
    refine h.dis A (by simp) j q hq ?_ b off (hf _ _ h1) h2
    rcases ho with ho | ho
    · exact .inl (he ▸ ho)
    · rcases hst with hst | hst
      · exact .inr ⟨hst, ho⟩
      · exact .inl hst
  · intro i hi hn
    by_cases hii : i = id
    · exact hS (hii ▸ hi)
    · rw [updρ_other _ _ hii] at hn; exact h.known i hi hn
  · intro B hB i q hq hBo b off h1 h2
    rw [hk] at h2 hBo
    by_cases hii : i = id
    · subst hii
      rw [updρ_same] at hq; cases hq
      rw [upd_same] at h2 hBo
      refine hsep.1 B hB ?_ b off (hf _ _ h2) h1
      rcases hBo with hBo | ⟨_, hBo⟩
      · exact .inr hBo
      · exact .inl (he ▸ hBo)
    · rw [updρ_other _ _ hii] at hq
      rw [upd_other _ _ hii] at h2 hBo
      exact h.dis B (by simp [hB]) i q hq hBo b off h1 h2
theorem Pend.back {A : Bool × (Nat → Nat → Prop)} {id : Nat} (h : Pend st w0 M ρ g (id :: S) (A :: F) w) {p : Plc} {e : Ent} (hid : ρ id = some p) (hr : RepE ρ w p e) (he : e.own = A.1) (hst : st = true ∨ A.1 = true)
    (hf : ∀ b off, foot p e b off → A.2 b off) : Pend st w0 M ρ (upd g id e) S F w := by
  have hn := List.nodup_cons.1 h.nodup
  have hk : kills S (upd g id e) = upd (kills (id :: S) g) id e := by
    funext i
    by_cases hii : i = id
    · subst hii; simp [kills, hn.1]
    · simp only [kills, upd_other _ _ hii, List.mem_cons, hii, false_or]
  have hdead : kills (id :: S) g id = .dead := by simp [kills]
  have hsep := List.pairwise_cons.1 h.sep
  refine ⟨?_, fun i hi => h.known i (by simp [hi]), hn.2, hsep.2, ?_, fun B hB => h.own B (by simp [hB])⟩
  · rw [hk]
    refine h.inv.put (Sub.refl ρ) (fun i hi => rfl) hid hdead hr (fun j q hj hq ho b off h1 h2 => ?_) (fun ho b off h1 => h.own A (by simp) (he ▸ ho) b off (hf _ _ h1))
    refine h.dis A (by simp) j q hq ?_ b off (hf _ _ h1) h2
    rcases ho with ho | ho
    · exact .inl (he ▸ ho)
    · rcases hst with hst | hst
      · exact .inr ⟨hst, ho⟩
      · exact .inl hst
  · intro B hB i q hq hBo b off h1 h2
    rw [hk] at h2 hBo
    by_cases hii : i = id
    · subst hii
      rw [hid] at hq; cases hq
      rw [upd_same] at h2 hBo
      refine hsep.1 B hB ?_ b off (hf _ _ h2) h1
      rcases hBo with hBo | ⟨_, hBo⟩
      · exact .inr hBo
      · exact .inl (he ▸ hBo)
    · rw [upd_other _ _ hii] at h2 hBo
      exact h.dis B (by simp [hB]) i q hq hBo b off h1 h2
theorem Pend.dead {id : Nat} (h : Pend st w0 M ρ g (id :: S) F w) : Pend st w0 M ρ (upd g id .dead) S F w := by
  have hn := List.nodup_cons.1 h.nodup
  have hk : kills S (upd g id .dead) = kills (id :: S) g := by
    funext i
    by_cases hii : i = id
    · subst hii; simp [kills, hn.1]
    · simp only [kills, upd_other _ _ hii, List.mem_cons, hii, false_or]
  exact ⟨by rw [hk]; exact h.inv, fun i hi => h.known i (by simp [hi]), hn.2, h.sep, by rw [hk]; exact h.dis, h.own⟩
end

/-! entering -/
theorem Sub.upd {ρ : Env} {id : Nat} {p : Plc} (h : ρ id = none) : Sub ρ (updρ ρ id p) := sub_updρ h
structure Entd (w0 : World) (M : Nat → Nat → Prop) (ρ : Env) (h : List Ent) (F : Feet) (w : World) : Prop where
  pend : Pend true w0 M ρ (ent h) [] F w
  top : ∀ id, h.length ≤ id → ρ id = none
mutual
theorem entD_ok {w0 : World} {M : Nat → Nat → Prop} {w : World} : ∀ (d : D) {v : Value} {F1 F : Feet} {ρ : Env} {h : List Ent}, RepD w d v F1 → Entd w0 M ρ h (F1 ++ F) w →
    ∃ ρ', Entd w0 M ρ' (entD d h).2 F w ∧ Sub ρ ρ' ∧ RepV ρ' (entD d h).1 v
  | .int k n, v, F1, F, ρ, h, r, E => by simp only [RepD] at r; obtain ⟨rfl, rfl⟩ := r; exact ⟨ρ, E, Sub.refl ρ, by simp [entD, RepV]⟩
  | .bool b, v, F1, F, ρ, h, r, E => by simp only [RepD] at r; obtain ⟨rfl, rfl⟩ := r; exact ⟨ρ, E, Sub.refl ρ, by simp [entD, RepV]⟩
  | .str b, v, F1, F, ρ, h, r, E => by simp only [RepD] at r; obtain ⟨rfl, rfl⟩ := r; exact ⟨ρ, E, Sub.refl ρ, by simp [entD, RepV]⟩
  | .arr own nil a, v, F1, F, ρ, h, r, E => by
    simp only [RepD] at r
    obtain ⟨p, rfl, hr, rfl⟩ := r
    have hn := E.top h.length (Nat.le_refl _)
    have := E.pend.new (id := h.length) (p := p) (e := .arr own nil a) hn hr rfl (.inl rfl) (fun _ _ h => h)
    rw [← ent_push] at this
    refine ⟨_, ⟨this, fun id hid => ?_⟩, sub_updρ hn, ?_⟩
    · simp only [entD, List.length_append, List.length_cons, List.length_nil] at hid
      rw [updρ_other _ _ (by omega)]; exact E.top id (by omega)
    · simp only [entD, RepV]; exact ⟨p, updρ_same _ _ _, rfl⟩
  | .agg l, v, F1, F, ρ, h, r, E => by
    simp only [RepD] at r
    obtain ⟨vs, rfl, hr⟩ := r
    obtain ⟨ρ', E', hs, hv⟩ := entDs_ok l hr E
    exact ⟨ρ', by simpa only [entD] using E', hs, by simp only [entD, RepV]; exact ⟨_, rfl, hv⟩⟩
  | .fn f l, v, F1, F, ρ, h, r, E => by
    simp only [RepD] at r
    obtain ⟨vs, rfl, hr⟩ := r
    obtain ⟨ρ', E', hs, hv⟩ := entDs_ok l hr E
    exact ⟨ρ', by simpa only [entD] using E', hs, by simp only [entD, RepV]; exact ⟨_, rfl, hv⟩⟩
  | .ptr own l, v, F1, F, ρ, h, r, E => by
    simp only [RepD] at r
    obtain ⟨x, vs, F', rfl, hx, hr, hc, ht, rfl⟩ := r
    obtain ⟨ρ', E', hs, hv⟩ := entDs_ok l (F := (own, boxFoot x l.length) :: F) hr (by simpa using E)
    have hn := E'.top (entDs l h).2.length (Nat.le_refl _)
    have hl : (entDs l h).1.length = l.length := by rw [← hv.length, hr.length]
    have := E'.pend.new (id := (entDs l h).2.length) (p := ⟨some x, 1, 1, 0⟩) (e := .box own (entDs l h).1) hn ⟨rfl, x, vs, rfl, hx, hv.mono (sub_updρ hn) _ _, hc, ht⟩ rfl (.inl rfl)
      (fun b off hf => by rw [foot_box (x := x) rfl] at hf; rw [hl] at hf; exact hf)
    rw [← ent_push] at this
    refine ⟨_, ⟨this, fun id hid => ?_⟩, hs.trans (sub_updρ hn), ?_⟩
    · simp only [entD, List.length_append, List.length_cons, List.length_nil] at hid
      rw [updρ_other _ _ (by omega)]; exact E'.top id (by omega)
    · simp only [entD, RepV]; exact ⟨_, x, updρ_same _ _ _, rfl, by simp, by simp [addr_add_zero]⟩
theorem entDs_ok {w0 : World} {M : Nat → Nat → Prop} {w : World} : ∀ (ds : List D) {vs : List Value} {F1 F : Feet} {ρ : Env} {h : List Ent}, RepDs w ds vs F1 → Entd w0 M ρ h (F1 ++ F) w →
    ∃ ρ', Entd w0 M ρ' (entDs ds h).2 F w ∧ Sub ρ ρ' ∧ RepVs ρ' (entDs ds h).1 vs
  | [], vs, F1, F, ρ, h, r, E => by simp only [RepDs] at r; obtain ⟨rfl, rfl⟩ := r; exact ⟨ρ, E, Sub.refl ρ, by simp [entDs, RepVs]⟩
  | d :: ds, vs, F1, F, ρ, h, r, E => by
    simp only [RepDs] at r
    obtain ⟨u, us, F2, F3, rfl, rfl, h1, h2⟩ := r
    obtain ⟨ρ1, E1, hs1, hv1⟩ := entD_ok d h1 (F := F3 ++ F) (by simpa using E)
    obtain ⟨ρ2, E2, hs2, hv2⟩ := entDs_ok ds h2 E1
    exact ⟨ρ2, by simpa only [entDs] using E2, hs1.trans hs2, by simp only [entDs]; exact RepVs.cons (hv1.mono hs2 _ _) hv2⟩
end
/-- from data alone -/
theorem enter_ok {w : World} {ds : List D} {vs : List Value} {F : Feet} (h : RepDs w ds vs F) (hs : Sep F) : ∃ ρ, Inv w (ownOf F) ρ (ent (entDs ds []).2) w ∧ RepVs ρ (entDs ds []).1 vs ∧ ∀ id, (entDs ds []).2.length ≤ id → ρ id = none := by
  have E0 : Entd w (ownOf F) (fun _ => none) [] (F ++ []) w := by
    refine ⟨⟨?_, by simp, by simp, by simpa using hs, fun A hA id p hp => by simp at hp, fun A hA ho b off hf => .inl ⟨A, by simpa using hA, ho, hf⟩⟩, fun _ _ => rfl⟩
    have he : kills [] (ent []) = fun _ => .dead := by funext id; simp [kills, ent]
    rw [he]
    exact ⟨⟨fun id hid => absurd rfl hid, fun i j p q _ hp => by simp at hp⟩, Fr.refl _ w, fun id p hp => by simp at hp⟩
  obtain ⟨ρ, E, _, hv⟩ := entDs_ok ds h E0
  exact ⟨ρ, by simpa [kills_nil] using E.pend.inv, hv, E.top⟩
end Go.Ev
