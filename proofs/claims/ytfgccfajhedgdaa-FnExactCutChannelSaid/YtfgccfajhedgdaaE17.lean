/- The evaluator: the entries numbered anew. -/
import Derived.Test.YtfgccfajhedgdaaE16
namespace Go.Ev
set_option linter.unusedSimpArgs false
set_option linter.unusedVariables false
set_option linter.unnecessarySimpa false
open Go Go.RowKit
structure CpOk (h : List Ent) (ρ : Env) (w : World) (c : Cp) (ρ' : Env) : Prop where
  top : ∀ id, c.h.length ≤ id → ρ' id = none
  im : ∀ j, j < c.h.length → ∃ i p, (i, j) ∈ c.m ∧ ρ i = some p ∧ ρ' j = some p ∧ (ent c.h j).own = (ent h i).own ∧ (∀ b off, foot p (ent c.h j) b off → foot p (ent h i) b off) ∧ RepE ρ' w p (ent c.h j)
  mm : ∀ i j, (i, j) ∈ c.m → j < c.h.length ∧ ρ i = ρ' j
  fn : ∀ i j j', (i, j) ∈ c.m → (i, j') ∈ c.m → j = j'
theorem find_some {m : List (Nat × Nat)} {id j : Nat} (h : find m id = some j) : (id, j) ∈ m := by
  unfold find at h
  cases hf : m.find? (·.1 == id) with
  | none => rw [hf] at h; cases h
  | some x =>
    rw [hf] at h
    simp only [Option.map_some, Option.some.injEq] at h
    have h1 := List.find?_some hf
    have h2 := List.mem_of_find?_eq_some hf
    obtain ⟨a, b⟩ := x
    simp only [beq_iff_eq] at h1
    simp only at h
    subst h1 h
    exact h2
theorem find_none {m : List (Nat × Nat)} {id : Nat} (h : find m id = none) : ∀ j, (id, j) ∉ m := by
  intro j hj
  unfold find at h
  simp only [Option.map_eq_none_iff, List.find?_eq_none] at h
  exact h _ hj (by simp)
section
variable {h : List Ent} {ρ : Env} {w : World}
theorem CpOk.add {c : Cp} {ρ' : Env} (C : CpOk h ρ w c ρ') {id : Nat} {p : Plc} {e : Ent} (hf : ∀ j, (id, j) ∉ c.m) (hp : ρ id = some p) (ho : e.own = (ent h id).own) (hfo : ∀ b off, foot p e b off → foot p (ent h id) b off)
    (hr : RepE ρ' w p e) : CpOk h ρ w ⟨(id, c.h.length) :: c.m, c.h ++ [e]⟩ (updρ ρ' c.h.length p) := by
  have hn := C.top c.h.length (Nat.le_refl _)
  refine ⟨?_, ?_, ?_, ?_⟩
  · intro i hi
    simp only [List.length_append, List.length_cons, List.length_nil] at hi
    rw [updρ_other _ _ (by omega)]
    exact C.top i (by omega)
  · intro j hj
    simp only [List.length_append, List.length_cons, List.length_nil] at hj
    rw [ent_push]
    by_cases hjj : j = c.h.length
    · subst hjj
      rw [upd_same]
      exact ⟨id, p, by simp, hp, updρ_same _ _ _, ho, hfo, hr.mono (sub_updρ hn)⟩
    · obtain ⟨i, q, h1, h2, h3, h4, h5, h6⟩ := C.im j (by omega)
      rw [upd_other _ _ hjj]
      exact ⟨i, q, by simp [h1], h2, by rw [updρ_other _ _ hjj]; exact h3, h4, h5, h6.mono (sub_updρ hn)⟩
  · intro i j hij
    simp only [List.length_append, List.length_cons, List.length_nil]
    rcases List.mem_cons.1 hij with hij | hij
    · cases hij
      exact ⟨by omega, by rw [updρ_same, hp]⟩
    · obtain ⟨h1, h2⟩ := C.mm i j hij
      exact ⟨by omega, by rw [updρ_other _ _ (by omega)]; exact h2⟩
  · intro i j j' h1 h2
    rcases List.mem_cons.1 h1 with h1 | h1 <;> rcases List.mem_cons.1 h2 with h2 | h2
    · cases h1; cases h2; rfl
    · cases h1; exact absurd h2 (hf j')
    · cases h2; exact absurd h1 (hf j)
    · exact C.fn i j j' h1 h2
def Arrs (h : List Ent) (m m' : List (Nat × Nat)) : Prop := ∀ i j, (i, j) ∈ m' → (i, j) ∈ m ∨ ∀ own cs, ent h i ≠ .box own cs
theorem arr_cp {c : Cp} {ρ' : Env} (I : HeapOk ρ (ent h) w) (C : CpOk h ρ w c ρ') {id : Nat} {own nil : Bool} {a : Arr} {p : Plc} (hg : ent h id = .arr own nil a) (hp : ρ id = some p) (hf : find c.m id = none) :
    CpOk h ρ w ⟨(id, c.h.length) :: c.m, c.h ++ [.arr own nil a]⟩ (updρ ρ' c.h.length p) := by
  obtain ⟨p', hp', hr⟩ := I.rep id (by rw [hg]; simp)
  rw [hp] at hp'; cases hp'
  rw [hg] at hr
  exact C.add (find_none hf) hp (by rw [hg]) (fun b off hf => by rw [hg]; exact hf) hr
theorem mp_cp {c : Cp} {ρ' : Env} (I : HeapOk ρ (ent h) w) (C : CpOk h ρ w c ρ') {id : Nat} {l : List (Int × Int × Int)} {p : Plc} (hg : ent h id = .mp l) (hp : ρ id = some p) (hf : find c.m id = none) :
    CpOk h ρ w ⟨(id, c.h.length) :: c.m, c.h ++ [.mp l]⟩ (updρ ρ' c.h.length p) := by
  obtain ⟨p', hp', hr⟩ := I.rep id (by rw [hg]; simp)
  rw [hp] at hp'; cases hp'
  rw [hg] at hr
  exact C.add (find_none hf) hp (by rw [hg]) (fun b off hf => by rw [hg]; exact hf) hr
mutual
theorem cpy0_ok (I : HeapOk ρ (ent h) w) : ∀ (v : AV) {c : Cp} {ρ' : Env} {vv : Value}, CpOk h ρ w c ρ' → RepV ρ v vv → ∃ ρ'', CpOk h ρ w (cpy0 h v c).2 ρ'' ∧ Sub ρ' ρ'' ∧ RepV ρ'' (cpy0 h v c).1 vv ∧ Arrs h c.m (cpy0 h v c).2.m
  | .int _ _, c, ρ', vv, C, r => ⟨ρ', by simpa only [cpy0] using C, Sub.refl _, by simpa only [cpy0, RepV] using r, fun _ _ h => .inl (by simpa only [cpy0] using h)⟩
  | .bool _, c, ρ', vv, C, r => ⟨ρ', by simpa only [cpy0] using C, Sub.refl _, by simpa only [cpy0, RepV] using r, fun _ _ h => .inl (by simpa only [cpy0] using h)⟩
  | .str _, c, ρ', vv, C, r => ⟨ρ', by simpa only [cpy0] using C, Sub.refl _, by simpa only [cpy0, RepV] using r, fun _ _ h => .inl (by simpa only [cpy0] using h)⟩
  | .nils, c, ρ', vv, C, r => ⟨ρ', by simpa only [cpy0] using C, Sub.refl _, by simpa only [cpy0, RepV] using r, fun _ _ h => .inl (by simpa only [cpy0] using h)⟩
  | .un, c, ρ', vv, C, r => ⟨ρ', by simpa only [cpy0] using C, Sub.refl _, by simp only [cpy0, RepV], fun _ _ h => .inl (by simpa only [cpy0] using h)⟩
  | .ptr _ _ _, c, ρ', vv, C, r => ⟨ρ', by simpa only [cpy0] using C, Sub.refl _, by simp only [cpy0, RepV], fun _ _ h => .inl (by simpa only [cpy0] using h)⟩
  | .tup _, c, ρ', vv, C, r => ⟨ρ', by simpa only [cpy0] using C, Sub.refl _, by simp only [cpy0, RepV], fun _ _ h => .inl (by simpa only [cpy0] using h)⟩
  | .sl id wn, c, ρ', vv, C, r => by
    simp only [RepV] at r
    obtain ⟨p, hp, hs⟩ := r
    simp only [cpy0]
    split
    · rename_i own nil a hg
      split
      · rename_i j hf
        obtain ⟨h1, h2⟩ := C.mm _ _ (find_some hf)
        exact ⟨ρ', C, Sub.refl _, by simp only [RepV]; exact ⟨p, by rw [← h2]; exact hp, hs⟩, fun _ _ h => .inl h⟩
      · rename_i hf
        refine ⟨_, arr_cp I C hg hp hf, sub_updρ (C.top _ (Nat.le_refl _)), by simp only [RepV]; exact ⟨p, updρ_same _ _ _, hs⟩, fun i j hij => ?_⟩
        rcases List.mem_cons.1 hij with hij | hij
        · cases hij; exact .inr (fun _ _ e => by rw [hg] at e; cases e)
        · exact .inl hij
    · exact ⟨ρ', C, Sub.refl _, by simp only [RepV], fun _ _ h => .inl h⟩
  | .mp id, c, ρ', vv, C, r => by
    simp only [RepV] at r
    obtain ⟨p, x, hp, hb, hs⟩ := r
    simp only [cpy0]
    split
    · rename_i l hg
      split
      · rename_i j hf
        obtain ⟨h1, h2⟩ := C.mm _ _ (find_some hf)
        exact ⟨ρ', C, Sub.refl _, by simp only [RepV]; exact ⟨p, x, by rw [← h2]; exact hp, hb, hs⟩, fun _ _ h => .inl h⟩
      · rename_i hf
        refine ⟨_, mp_cp I C hg hp hf, sub_updρ (C.top _ (Nat.le_refl _)), by simp only [RepV]; exact ⟨p, x, updρ_same _ _ _, hb, hs⟩, fun i j hij => ?_⟩
        rcases List.mem_cons.1 hij with hij | hij
        · cases hij; exact .inr (fun _ _ e => by rw [hg] at e; cases e)
        · exact .inl hij
    · exact ⟨ρ', C, Sub.refl _, by simp only [RepV], fun _ _ h => .inl h⟩
  | .agg cs, c, ρ', vv, C, r => by
    simp only [RepV] at r
    obtain ⟨vs, rfl, r⟩ := r
    obtain ⟨ρ'', h1, h2, h3, h4⟩ := cpys0_ok I cs C r
    exact ⟨ρ'', by simpa only [cpy0] using h1, h2, by simp only [cpy0, RepV]; exact ⟨_, rfl, h3⟩, by simpa only [cpy0] using h4⟩
  | .fn f cs, c, ρ', vv, C, r => by
    simp only [RepV] at r
    obtain ⟨vs, rfl, r⟩ := r
    obtain ⟨ρ'', h1, h2, h3, h4⟩ := cpys0_ok I cs C r
    exact ⟨ρ'', by simpa only [cpy0] using h1, h2, by simp only [cpy0, RepV]; exact ⟨_, rfl, h3⟩, by simpa only [cpy0] using h4⟩
theorem cpys0_ok (I : HeapOk ρ (ent h) w) : ∀ (vs : List AV) {c : Cp} {ρ' : Env} {us : List Value}, CpOk h ρ w c ρ' → RepVs ρ vs us → ∃ ρ'', CpOk h ρ w (cpys0 h vs c).2 ρ'' ∧ Sub ρ' ρ'' ∧ RepVs ρ'' (cpys0 h vs c).1 us ∧ Arrs h c.m (cpys0 h vs c).2.m
  | [], c, ρ', us, C, r => ⟨ρ', by simpa only [cpys0] using C, Sub.refl _, by simpa only [cpys0, RepVs] using r, fun _ _ h => .inl (by simpa only [cpys0] using h)⟩
  | v :: vs, c, ρ', us, C, r => by
    simp only [RepVs] at r
    obtain ⟨u, us, rfl, r1, r2⟩ := r
    obtain ⟨ρ1, h1, h2, h3, h4⟩ := cpy0_ok I v C r1
    obtain ⟨ρ2, k1, k2, k3, k4⟩ := cpys0_ok I vs h1 r2
    refine ⟨ρ2, by simpa only [cpys0] using k1, h2.trans k2, by simp only [cpys0]; exact RepVs.cons (h3.mono k2 _ _) k3, fun i j hij => ?_⟩
    simp only [cpys0] at hij
    rcases k4 i j hij with h | h
    · exact h4 i j h
    · exact .inr h
end
mutual
theorem cpy_ok (I : HeapOk ρ (ent h) w) : ∀ (v : AV) {c : Cp} {ρ' : Env} {vv : Value}, CpOk h ρ w c ρ' → RepV ρ v vv → ∃ ρ'', CpOk h ρ w (cpy h v c).2 ρ'' ∧ Sub ρ' ρ'' ∧ RepV ρ'' (cpy h v c).1 vv
  | .int k n, c, ρ', vv, C, r => by simp only [cpy]; obtain ⟨a, b, d, e, _⟩ := cpy0_ok I (.int k n) C r; exact ⟨a, b, d, e⟩
  | .bool k, c, ρ', vv, C, r => by simp only [cpy]; obtain ⟨a, b, d, e, _⟩ := cpy0_ok I (.bool k) C r; exact ⟨a, b, d, e⟩
  | .str k, c, ρ', vv, C, r => by simp only [cpy]; obtain ⟨a, b, d, e, _⟩ := cpy0_ok I (.str k) C r; exact ⟨a, b, d, e⟩
  | .nils, c, ρ', vv, C, r => by simp only [cpy]; obtain ⟨a, b, d, e, _⟩ := cpy0_ok I .nils C r; exact ⟨a, b, d, e⟩
  | .un, c, ρ', vv, C, r => by simp only [cpy]; obtain ⟨a, b, d, e, _⟩ := cpy0_ok I .un C r; exact ⟨a, b, d, e⟩
  | .tup k, c, ρ', vv, C, r => by simp only [cpy]; obtain ⟨a, b, d, e, _⟩ := cpy0_ok I (.tup k) C r; exact ⟨a, b, d, e⟩
  | .agg k, c, ρ', vv, C, r => by simp only [cpy]; obtain ⟨a, b, d, e, _⟩ := cpy0_ok I (.agg k) C r; exact ⟨a, b, d, e⟩
  | .mp k, c, ρ', vv, C, r => by simp only [cpy]; obtain ⟨a, b, d, e, _⟩ := cpy0_ok I (.mp k) C r; exact ⟨a, b, d, e⟩
  | .sl k n, c, ρ', vv, C, r => by simp only [cpy]; obtain ⟨a, b, d, e, _⟩ := cpy0_ok I (.sl k n) C r; exact ⟨a, b, d, e⟩
  | .fn f cs, c, ρ', vv, C, r => by
    simp only [RepV] at r
    obtain ⟨vs, rfl, r⟩ := r
    obtain ⟨ρ'', h1, h2, h3⟩ := cpys_ok I cs C r
    exact ⟨ρ'', by simpa only [cpy] using h1, h2, by simp only [cpy, RepV]; exact ⟨_, rfl, h3⟩⟩
  | .ptr id i o, c, ρ', vv, C, r => by
    simp only [RepV] at r
    obtain ⟨p, x, hp, hs⟩ := r
    simp only [cpy]
    split
    · rename_i own cs hg
      split
      · rename_i j hf
        obtain ⟨h1, h2⟩ := C.mm _ _ (find_some hf)
        exact ⟨ρ', C, Sub.refl _, by simp only [RepV]; exact ⟨p, x, by rw [← h2]; exact hp, hs⟩⟩
      · rename_i hf
        obtain ⟨p', hp', hr⟩ := I.rep id (by rw [hg]; simp)
        rw [hp] at hp'; cases hp'
        rw [hg] at hr
        obtain ⟨k1, y, vs, k2, k3, k4, k5, k6⟩ := hr
        obtain ⟨ρ1, h1, h2, h3, h4⟩ := cpys0_ok I cs C k4
        have hno : ∀ j, (id, j) ∉ (cpys0 h cs c).2.m := fun j hj => by
          rcases h4 id j hj with h | h
          · exact find_none hf j h
          · exact absurd hg (h _ _)
        have hlen : (cpys0 h cs c).1.length = cs.length := by rw [← h3.length, k4.length]
        have := h1.add (e := .box own (cpys0 h cs c).1) hno hp (by rw [hg]; rfl) (fun b off hf => by rw [hg]; rw [foot_box k2] at hf ⊢; rw [hlen] at hf; exact hf) ⟨k1, y, vs, k2, k3, h3, k5, k6⟩
        exact ⟨_, this, h2.trans (sub_updρ (h1.top _ (Nat.le_refl _))), by simp only [RepV]; exact ⟨p, x, updρ_same _ _ _, hs⟩⟩
    · rename_i own nil a hg
      split
      · rename_i j hf
        obtain ⟨h1, h2⟩ := C.mm _ _ (find_some hf)
        exact ⟨ρ', C, Sub.refl _, by simp only [RepV]; exact ⟨p, x, by rw [← h2]; exact hp, hs⟩⟩
      · rename_i hf
        exact ⟨_, arr_cp I C hg hp hf, sub_updρ (C.top _ (Nat.le_refl _)), by simp only [RepV]; exact ⟨p, x, updρ_same _ _ _, hs⟩⟩
    · exact ⟨ρ', C, Sub.refl _, by simp only [RepV]⟩
theorem cpys_ok (I : HeapOk ρ (ent h) w) : ∀ (vs : List AV) {c : Cp} {ρ' : Env} {us : List Value}, CpOk h ρ w c ρ' → RepVs ρ vs us → ∃ ρ'', CpOk h ρ w (cpys h vs c).2 ρ'' ∧ Sub ρ' ρ'' ∧ RepVs ρ'' (cpys h vs c).1 us
  | [], c, ρ', us, C, r => ⟨ρ', by simpa only [cpys] using C, Sub.refl _, by simpa only [cpys, RepVs] using r⟩
  | v :: vs, c, ρ', us, C, r => by
    simp only [RepVs] at r
    obtain ⟨u, us, rfl, r1, r2⟩ := r
    obtain ⟨ρ1, h1, h2, h3⟩ := cpy_ok I v C r1
    obtain ⟨ρ2, k1, k2, k3⟩ := cpys_ok I vs h1 r2
    exact ⟨ρ2, by simpa only [cpys] using k1, h2.trans k2, by simp only [cpys]; exact RepVs.cons (h3.mono k2 _ _) k3⟩
end
theorem RepVs.set_same {ρ : Env} {cs : List AV} {vs : List Value} (hr : RepVs ρ cs vs) {i : Nat} {c : AV} (hc : RepV ρ c (vs.getD i undef)) : RepVs ρ (cs.set i c) vs := by
  have := hr.set i hc
  have e : vs.set i (vs.getD i undef) = vs := by
    apply List.ext_getElem?
    intro k
    rw [List.getElem?_set]
    split
    · rename_i e; subst e
      split
      · rename_i hl; simp [hl]
      · rename_i hl; simp [hl]
    · rfl
  rwa [e] at this
theorem canonGo_ok (I : HeapOk ρ (ent h) w) {fr : List AV} {vs : List Value} (hr : RepVs ρ fr vs) : ∀ (ts : List Nat) {out : List AV} {c : Cp} {ρ' : Env}, CpOk h ρ w c ρ' → RepVs ρ' out vs → ∃ ρ'', CpOk h ρ w (canonGo fr h ts out c).2 ρ'' ∧ Sub ρ' ρ'' ∧ RepVs ρ'' (canonGo fr h ts out c).1 vs
  | [], out, c, ρ', C, r => ⟨ρ', by simpa only [canonGo] using C, Sub.refl _, by simpa only [canonGo] using r⟩
  | t :: ts, out, c, ρ', C, r => by
    obtain ⟨ρ1, h1, h2, h3⟩ := cpy_ok I (fr.getD t .un) C (hr.get t)
    obtain ⟨ρ2, k1, k2, k3⟩ := canonGo_ok I hr ts h1 ((r.mono h2 _ _).set_same h3)
    exact ⟨ρ2, by simpa only [canonGo] using k1, h2.trans k2, by simpa only [canonGo] using k3⟩
end
theorem RepVs.uns {ρ : Env} : ∀ (cs : List AV) (vs : List Value), vs.length = cs.length → RepVs ρ (cs.map fun _ => .un) vs
  | [], [], _ => by simp [RepVs]
  | [], _ :: _, h => by simp at h
  | _ :: _, [], h => by simp at h
  | c :: cs, v :: vs, h => RepVs.cons (by simp [RepV]) (RepVs.uns cs vs (by simpa using h))
theorem canon_ok {w0 : World} {M : Nat → Nat → Prop} {ρ : Env} {s : St} {gv : List Value} {a : Act} {w : World} (keep : List Nat) (R : StR w0 M ρ s gv a w) : ∃ ρ', StR w0 M ρ' (canon keep s) gv a w := by
  have I := R.inv.ok
  have C0 : CpOk s.h ρ w ⟨[], []⟩ (fun _ => none) := ⟨fun _ _ => rfl, fun j hj => by simp at hj, fun i j h => by simp at h, fun i j j' h => by simp at h⟩
  obtain ⟨ρ1, h1, h2, h3⟩ := canonGo_ok I R.fr keep C0 (RepVs.uns s.fr _ R.fr.length)
  obtain ⟨ρ2, k1, k2, k3⟩ := cpys_ok I s.pn h1 R.pn
  refine ⟨ρ2, h3.mono k2 _ _, k3, ⟨⟨?_, ?_⟩, R.inv.fr, ?_⟩, k1.top, R.calm⟩
  · intro j hj
    have hlt : j < (canon keep s).h.length := by
      rcases Nat.lt_or_ge j (canon keep s).h.length with h | h
      · exact h
      · exact absurd (ent_ge _ _ h) hj
    obtain ⟨i, p, m1, m2, m3, m4, m5, m6⟩ := k1.im j hlt
    exact ⟨p, m3, m6⟩
  · intro i j p q hij hp hq ho b off hf hf'
    have lt : ∀ i p, ρ2 i = some p → i < (canon keep s).h.length := fun i p hp => by
      rcases Nat.lt_or_ge i (canon keep s).h.length with h | h
      · exact h
      · have := k1.top i h; rw [hp] at this; cases this
    obtain ⟨i0, p0, m1, m2, m3, m4, m5, m6⟩ := k1.im i (lt i p hp)
    obtain ⟨j0, q0, n1, n2, n3, n4, n5, n6⟩ := k1.im j (lt j q hq)
    rw [hp] at m3; cases m3
    rw [hq] at n3; cases n3
    refine I.sep i0 j0 p q (fun e => ?_) m2 n2 (by rw [← m4]; exact ho) b off (m5 b off hf) (n5 b off hf')
    subst e
    exact hij (k1.fn _ _ _ m1 n1)
  · intro i p hp ho b off hf
    have hlt : i < (canon keep s).h.length := by
      rcases Nat.lt_or_ge i (canon keep s).h.length with h | h
      · exact h
      · have := k1.top i h; rw [hp] at this; cases this
    obtain ⟨i0, p0, m1, m2, m3, m4, m5, m6⟩ := k1.im i hlt
    rw [hp] at m3; cases m3
    exact R.inv.own i0 p m2 (by rw [← m4]; exact ho) b off (m5 b off hf)
theorem fN1 (n m : Nat) (a : R) (K : Nat → R) (h : a = K n) : cond (Nat.beq n m) (K m) a = K n := by
  cases e : Nat.beq n m
  · exact h
  · rw [Nat.eq_of_beq_eq_true e]; rfl
theorem forceN_eq (n : Nat) (K : Nat → R) : forceN n K = K n := by
  unfold forceN
  iterate 48 refine fN1 _ _ _ _ ?_
  rfl
mutual
theorem forceAV_eq : ∀ (v : AV) (K : AV → R), forceAV v K = K v
  | .un, K => rfl
  | .nils, K => rfl
  | .int k n, K => rfl
  | .bool b, K => rfl
  | .str s, K => rfl
  | .sl id none, K => by rw [forceAV, forceN_eq]
  | .sl id (some (o, n)), K => by rw [forceAV, forceN_eq]
  | .ptr id i o, K => by rw [forceAV, forceN_eq]
  | .mp id, K => by rw [forceAV, forceN_eq]
  | .agg cs, K => by rw [forceAV, forceAVs_eq cs]
  | .tup cs, K => by rw [forceAV, forceAVs_eq cs]
  | .fn f cs, K => by rw [forceAV, forceAVs_eq cs]
theorem forceAVs_eq : ∀ (l : List AV) (K : List AV → R), forceAVs l K = K l
  | [], K => rfl
  | c :: cs, K => by rw [forceAVs, forceAV_eq c, forceAVs_eq cs]
end
theorem forceArr_eq (a : Arr) (K : Arr → R) : forceArr a K = K a := by cases a <;> rfl
theorem forceB_eq (a : Bool) (K : Bool → R) : forceB a K = K a := by cases a <;> rfl
theorem forceEnt_eq (e : Ent) (K : Ent → R) : forceEnt e K = K e := by
  cases e with
  | dead => rfl
  | box own cs => rw [forceEnt, forceB_eq, forceAVs_eq]
  | arr own nil a => rw [forceEnt, forceB_eq, forceArr_eq]
  | mp l => rfl
theorem forceEnts_eq : ∀ (l : List Ent) (K : List Ent → R), forceEnts l K = K l
  | [], K => rfl
  | c :: cs, K => by rw [forceEnts, forceEnt_eq c, forceEnts_eq cs]
theorem forceSt_eq (s : St) (K : St → R) : forceSt s K = K s := by
  cases s with
  | mk fr pn h => rw [forceSt, forceEnts_eq, forceAVs_eq, forceAVs_eq]
theorem canonAt_ok {A : Ann} {f : Nat} {c : Code} {K : St → R} {out : List D} {w0 : World} {M : Nat → Nat → Prop} {ρ : Env} {s : St} {gv : List Value} {a : Act} {w : World} (R : StR w0 M ρ s gv a w) (h : canonAt A f c s K = some out) :
    ∃ ρ' s', StR w0 M ρ' s' gv a w ∧ K s' = some out := by
  unfold canonAt at h
  split at h
  · split at h
    · rw [forceSt_eq] at h
      obtain ⟨ρ', R'⟩ := canon_ok _ R
      exact ⟨ρ', _, R', h⟩
    · rw [forceSt_eq] at h
      exact ⟨ρ, s, R, h⟩
  · exact ⟨ρ, s, R, h⟩
end Go.Ev
