/- Meshes: cut, joined, split, merged; plain facts. -/
import Derived.Test.YtfgccfajhedgdaaPV
namespace Go.Proofs.Ytfgccfajhedgdaa
open Go.Ev
set_option linter.unusedVariables false
set_option linter.unusedSimpArgs false
def okp : Int → List Cell → Bool
  | _, [] => true
  | p, x :: l => idOk x.1 x.2.1 x.2.2 && (decide (startOf x.1 x.2.1 x.2.2 = p) && okp (p + width x.2.1) l)
def endp : Int → List Cell → Int
  | p, [] => p
  | p, x :: l => endp (p + width x.2.1) l
theorem meshGo_iff : ∀ (l : List Cell) (r p : Int), meshGo r p l = (okp p l && (inR r 1 8 && decide (endp p l = r * 16)))
  | [], r, p => rfl
  | x :: l, r, p => by
    simp only [meshGo, okp, endp]
    by_cases h : startOf x.1 x.2.1 x.2.2 = p
    · rw [h, meshGo_iff l r]; simp only [Bool.and_assoc]; rfl
    · rw [dF h]; simp
theorem meshP {l : List Cell} {r p : Int} : meshGo r p l = true ↔ okp p l = true ∧ (1 ≤ r ∧ r ≤ 8) ∧ endp p l = r * 16 := by
  rw [meshGo_iff]; simp only [Bool.and_eq_true, inR_iff, decide_eq_true_eq]
theorem okp_cons {x : Cell} {l : List Cell} {p : Int} : okp p (x :: l) = true ↔ idOk x.1 x.2.1 x.2.2 = true ∧ startOf x.1 x.2.1 x.2.2 = p ∧ okp (p + width x.2.1) l = true := by
  simp only [okp, Bool.and_eq_true, decide_eq_true_eq]
theorem endp_cons (x : Cell) (l : List Cell) (p : Int) : endp p (x :: l) = endp (p + width x.2.1) l := rfl
theorem okp_append : ∀ (a b : List Cell) (p : Int), okp p (a ++ b) = (okp p a && okp (endp p a) b)
  | [], b, p => by simp [okp, endp]
  | x :: a, b, p => by simp only [List.cons_append, okp, endp, okp_append a b, Bool.and_assoc]
theorem endp_append : ∀ (a b : List Cell) (p : Int), endp p (a ++ b) = endp (endp p a) b
  | [], b, p => by simp [endp]
  | x :: a, b, p => by simp only [List.cons_append, endp, endp_append a b]
theorem unbGo_spec (l : List Cell) : ∀ n i, (unbGo l n i < 0 ↔ ∀ j, i ≤ j → j < i + n → ¬ (1 < levAt l j - levAt l (j + 1) ∨ levAt l j - levAt l (j + 1) < -1)) ∧ (0 ≤ unbGo l n i → ∃ j : Nat, unbGo l n i = j ∧ i ≤ j ∧ j < i + n ∧ (1 < levAt l j - levAt l (j + 1) ∨ levAt l j - levAt l (j + 1) < -1))
  | 0, i => by refine ⟨⟨fun _ j h1 h2 => by omega, fun _ => by simp [unbGo]⟩, fun h => by simp [unbGo] at h⟩
  | n + 1, i => by
    have ih := unbGo_spec l n (i + 1)
    unfold unbGo
    by_cases g : 1 < levAt l i - levAt l (i + 1) ∨ levAt l i - levAt l (i + 1) < -1
    · rw [if_pos g]
      refine ⟨⟨fun h => by omega, fun h => absurd g (h i (Nat.le_refl _) (by omega))⟩, fun _ => ⟨i, rfl, Nat.le_refl _, by omega, g⟩⟩
    · rw [if_neg g]
      refine ⟨⟨fun h j h1 h2 => ?_, fun h => ih.1.2 fun j h1 h2 => h j (by omega) (by omega)⟩, fun h => ?_⟩
      · by_cases e : j = i
        · subst e; exact g
        · exact ih.1.1 h j (by omega) (by omega)
      · obtain ⟨j, e, h1, h2, h3⟩ := ih.2 h
        exact ⟨j, e, by omega, by omega, h3⟩
theorem unb_iff (l : List Cell) : unb l < 0 ↔ ∀ j, j + 1 < l.length → -1 ≤ levAt l j - levAt l (j + 1) ∧ levAt l j - levAt l (j + 1) ≤ 1 := by
  unfold unb
  rw [(unbGo_spec l _ _).1]
  refine ⟨fun h j hj => ?_, fun h j _ hj => ?_⟩
  · have := h j (by omega) (by omega); omega
  · have := h j (by omega); omega
theorem unb_at {l : List Cell} (h : 0 ≤ unb l) : ∃ j : Nat, unb l = j ∧ j + 1 < l.length ∧ (1 < levAt l j - levAt l (j + 1) ∨ levAt l j - levAt l (j + 1) < -1) := by
  unfold unb at *
  obtain ⟨j, e, h1, h2, h3⟩ := (unbGo_spec l _ _).2 h
  exact ⟨j, e, by omega, h3⟩
theorem getD_append {α : Type} (a b : List α) (i : Nat) (d : α) : (a ++ b).getD i d = if i < a.length then a.getD i d else b.getD (i - a.length) d := by
  simp only [List.getD_eq_getElem?_getD]
  by_cases h : i < a.length
  · rw [if_pos h, List.getElem?_append_left h]
  · rw [if_neg h, List.getElem?_append_right (by omega)]
theorem lev_append (a b : List Cell) (i : Nat) : levAt (a ++ b) i = if i < a.length then levAt a i else levAt b (i - a.length) := by
  simp only [levAt, getD_append]
  by_cases h : i < a.length
  · rw [if_pos h, if_pos h]
  · rw [if_neg h, if_neg h]
theorem unb_append {a b : List Cell} (ha : unb a < 0) (hb : unb b < 0) (h1 : 1 ≤ a.length) (h2 : 1 ≤ b.length) (hj : -1 ≤ levAt a (a.length - 1) - levAt b 0 ∧ levAt a (a.length - 1) - levAt b 0 ≤ 1) : unb (a ++ b) < 0 := by
  rw [unb_iff] at *
  intro j hl
  rw [List.length_append] at hl
  rw [lev_append, lev_append]
  by_cases g : j + 1 < a.length
  · rw [if_pos (by omega), if_pos g]; exact ha j g
  · by_cases g2 : j < a.length
    · rw [if_pos g2, if_neg g, show j = a.length - 1 by omega, show a.length - 1 + 1 - a.length = 0 by omega]; exact hj
    · rw [if_neg g2, if_neg g, show j + 1 - a.length = (j - a.length) + 1 by omega]
      exact hb (j - a.length) (by omega)
theorem unb_left {a b : List Cell} (h : unb (a ++ b) < 0) : unb a < 0 := by
  rw [unb_iff] at *
  intro j hl
  have := h j (by rw [List.length_append]; omega)
  rw [lev_append, lev_append, if_pos (by omega), if_pos hl] at this
  exact this
theorem unb_right {a b : List Cell} (h : unb (a ++ b) < 0) : unb b < 0 := by
  rw [unb_iff] at *
  intro j hl
  have := h (a.length + j) (by rw [List.length_append]; omega)
  rw [lev_append, lev_append, if_neg (by omega), if_neg (by omega), show a.length + j - a.length = j by omega, show a.length + j + 1 - a.length = j + 1 by omega] at this
  exact this
def shiftR (d : Int) (l : List Cell) : List Cell := l.map fun x => (x.1 + d, x.2.1, x.2.2)
theorem shiftR_len (d : Int) (l : List Cell) : (shiftR d l).length = l.length := by simp [shiftR]
theorem shiftR_lev (d : Int) (l : List Cell) (i : Nat) : levAt (shiftR d l) i = levAt l i := by
  simp only [levAt, shiftR, List.getD_eq_getElem?_getD, List.getElem?_map]
  cases l[i]? <;> rfl
theorem shiftR_unb (d : Int) (l : List Cell) : (unb (shiftR d l) < 0) = (unb l < 0) := by
  rw [unb_iff, unb_iff]
  simp only [shiftR_len, shiftR_lev]
theorem idOk_shift {x : Cell} {d : Int} (h : idOk x.1 x.2.1 x.2.2 = true) (h0 : 0 ≤ x.1 + d) (h1 : x.1 + d ≤ 7) : idOk (x.1 + d) x.2.1 x.2.2 = true ∧ startOf (x.1 + d) x.2.1 x.2.2 = startOf x.1 x.2.1 x.2.2 + 16 * d := by
  have hs := idOk_spec h
  have e : idOk (x.1 + d) x.2.1 x.2.2 = true := by
    unfold idOk at *
    simp only [Bool.and_eq_true] at *
    exact ⟨inR_iff.2 ⟨h0, h1⟩, h.2⟩
  refine ⟨e, ?_⟩
  simp only [startOf, e, h, if_true]; omega
theorem okp_shift (d : Int) : ∀ (l : List Cell) (p : Int), okp p l = true → (∀ x ∈ l, 0 ≤ x.1 + d ∧ x.1 + d ≤ 7) → okp (p + 16 * d) (shiftR d l) = true ∧ endp (p + 16 * d) (shiftR d l) = endp p l + 16 * d
  | [], p, h, hr => by simp [okp, endp, shiftR]
  | x :: l, p, h, hr => by
    simp only [okp, Bool.and_eq_true, decide_eq_true_eq] at h
    have hx := hr x (by simp)
    have e := idOk_shift h.1 hx.1 hx.2
    have ih := okp_shift d l (p + width x.2.1) h.2.2 fun y hy => hr y (by simp [hy])
    rw [show p + width x.2.1 + 16 * d = p + 16 * d + width x.2.1 by omega] at ih
    simp only [shiftR, List.map_cons, okp, endp]
    refine ⟨?_, ih.2⟩
    rw [e.1, e.2, h.2.1, dT rfl]
    exact ih.1
theorem roots_mem {l : List Cell} {r p : Int} (h : meshGo r p l = true) : ∀ x ∈ l, 0 ≤ x.1 ∧ x.1 < r := by
  intro x hx
  obtain ⟨i, hi, rfl⟩ := List.getElem_of_mem hx
  have := (mesh_facts l r p h).2.2.2.1 i hi
  simp only [List.getD_eq_getElem?_getD, List.getElem?_eq_getElem hi, Option.getD_some] at this
  exact ⟨this.1, this.2.1⟩
theorem mesh_join {r r' : Int} {a b : List Cell} (ha : meshGo r 0 a = true) (hb : meshGo r' 0 b = true) (h : r + r' ≤ 8) : meshGo (r + r') 0 (a ++ shiftR r b) = true := by
  have fa := mesh_facts a r 0 ha; have fb := mesh_facts b r' 0 hb
  have rb := roots_mem hb
  rw [meshGo_iff] at *
  simp only [Bool.and_eq_true, inR_iff, decide_eq_true_eq] at *
  have e := okp_shift r b 0 hb.1 fun x hx => by have := rb x hx; omega
  rw [okp_append, endp_append, ha.2.2, show r * 16 = 0 + 16 * r by omega, Bool.and_eq_true]
  refine ⟨⟨ha.1, e.1⟩, ⟨by omega, by omega⟩, ?_⟩
  rw [e.2, hb.2.2]; omega
end Go.Proofs.Ytfgccfajhedgdaa
