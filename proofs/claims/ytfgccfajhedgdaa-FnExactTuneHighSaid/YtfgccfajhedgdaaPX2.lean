/- Meshes: split and merged; plain facts. -/
import Derived.Test.YtfgccfajhedgdaaPX
namespace Go.Proofs.Ytfgccfajhedgdaa
open Go.Ev
set_option linter.unusedVariables false
set_option linter.unusedSimpArgs false
theorem w0 : width 0 = 16 := by decide
theorem w1_ : width 1 = 8 := by decide
theorem w2_ : width 2 = 4 := by decide
theorem w3_ : width 3 = 2 := by decide
theorem w4_ : width 4 = 1 := by decide
theorem idOk_iff {r l i : Int} : idOk r l i = true ↔ (0 ≤ r ∧ r ≤ 7) ∧ (0 ≤ l ∧ l ≤ 4) ∧ 0 ≤ i ∧ i < pow2 l := by
  simp only [idOk, Bool.and_eq_true, inR_iff, decide_eq_true_eq]
theorem start_of {r l i : Int} (h : idOk r l i = true) : startOf r l i = r * 16 + i * width l := by simp [startOf, h]
abbrev ch0 (x : Cell) : Cell := (x.1, x.2.1 + 1, 2 * x.2.2)
abbrev ch1 (x : Cell) : Cell := (x.1, x.2.1 + 1, 2 * x.2.2 + 1)
theorem child_ok {r l i : Int} (h : idOk r l i = true) (hl : l < 4) : idOk r (l + 1) (2 * i) = true ∧ idOk r (l + 1) (2 * i + 1) = true ∧ startOf r (l + 1) (2 * i) = startOf r l i ∧ startOf r (l + 1) (2 * i + 1) = startOf r l i + width (l + 1) ∧ width (l + 1) + width (l + 1) = width l := by
  have h' := idOk_iff.1 h
  rcases lev (inR_iff.2 h'.2.1) with rfl | rfl | rfl | rfl | rfl
  · have p := h'.2.2; simp only [p20] at p
    have a : idOk r 1 (2 * i) = true := idOk_iff.2 ⟨h'.1, by omega, by rw [p21]; omega⟩
    have b : idOk r 1 (2 * i + 1) = true := idOk_iff.2 ⟨h'.1, by omega, by rw [p21]; omega⟩
    refine ⟨a, b, ?_, ?_, rfl⟩
    · show startOf r 1 (2 * i) = _; rw [start_of a, start_of h, w0, w1_]; omega
    · show startOf r 1 (2 * i + 1) = _ + width 1; rw [start_of b, start_of h, w0, w1_]; omega
  · have p := h'.2.2; simp only [p21] at p
    have a : idOk r 2 (2 * i) = true := idOk_iff.2 ⟨h'.1, by omega, by rw [p22]; omega⟩
    have b : idOk r 2 (2 * i + 1) = true := idOk_iff.2 ⟨h'.1, by omega, by rw [p22]; omega⟩
    refine ⟨a, b, ?_, ?_, rfl⟩
    · show startOf r 2 (2 * i) = _; rw [start_of a, start_of h, w1_, w2_]; omega
    · show startOf r 2 (2 * i + 1) = _ + width 2; rw [start_of b, start_of h, w1_, w2_]; omega
  · have p := h'.2.2; simp only [p22] at p
    have a : idOk r 3 (2 * i) = true := idOk_iff.2 ⟨h'.1, by omega, by rw [p23]; omega⟩
    have b : idOk r 3 (2 * i + 1) = true := idOk_iff.2 ⟨h'.1, by omega, by rw [p23]; omega⟩
    refine ⟨a, b, ?_, ?_, rfl⟩
    · show startOf r 3 (2 * i) = _; rw [start_of a, start_of h, w2_, w3_]; omega
    · show startOf r 3 (2 * i + 1) = _ + width 3; rw [start_of b, start_of h, w2_, w3_]; omega
  · have p := h'.2.2; simp only [p23] at p
    have a : idOk r 4 (2 * i) = true := idOk_iff.2 ⟨h'.1, by omega, by rw [p24]; omega⟩
    have b : idOk r 4 (2 * i + 1) = true := idOk_iff.2 ⟨h'.1, by omega, by rw [p24]; omega⟩
    refine ⟨a, b, ?_, ?_, rfl⟩
    · show startOf r 4 (2 * i) = _; rw [start_of a, start_of h, w3_, w4_]; omega
    · show startOf r 4 (2 * i + 1) = _ + width 4; rw [start_of b, start_of h, w3_, w4_]; omega
  · omega
def splitL (l : List Cell) (i : Nat) : List Cell := l.take i ++ ch0 (l.getD i zz3) :: ch1 (l.getD i zz3) :: l.drop (i + 1)
theorem splitL_len {l : List Cell} {i : Nat} (h : i < l.length) : (splitL l i).length = l.length + 1 := by
  simp only [splitL, List.length_append, List.length_take, List.length_cons, List.length_drop]; omega
theorem cut_at {α : Type} {l : List α} {i : Nat} (h : i < l.length) (d : α) : l = l.take i ++ l.getD i d :: l.drop (i + 1) := by
  rw [← drop_at h d, List.take_append_drop]
theorem split_mesh {l : List Cell} {r p : Int} {i : Nat} (h : meshGo r p l = true) (hi : i < l.length) (hl : (l.getD i zz3).2.1 < 4) : meshGo r p (splitL l i) = true := by
  rw [meshP] at *
  have e := cut_at hi zz3
  have h1 := h
  rw [e, okp_append, endp_append] at h1
  unfold splitL
  rw [okp_append, endp_append]
  simp only [okp_cons, endp_cons, Bool.and_eq_true] at h1 ⊢
  have c := child_ok h1.1.2.1 hl
  refine ⟨⟨h1.1.1, c.1, ?_, c.2.1, ?_, ?_⟩, h1.2.1, ?_⟩
  · rw [c.2.2.1]; exact h1.1.2.2.1
  · rw [c.2.2.2.1, h1.1.2.2.1]
  · rw [Int.add_assoc, c.2.2.2.2]; exact h1.1.2.2.2
  · rw [Int.add_assoc, c.2.2.2.2]; exact h1.2.2
def coarse (l : List Cell) (i : Nat) : Nat := if levAt l (i + 1) < levAt l i then i + 1 else i
theorem coarse_ok {l : List Cell} {r p : Int} {i : Nat} (h : meshGo r p l = true) (hi : i + 1 < l.length) (hu : 1 < levAt l i - levAt l (i + 1) ∨ levAt l i - levAt l (i + 1) < -1) : coarse l i < l.length ∧ levAt l (coarse l i) < 4 := by
  have h1 := mesh_lev _ _ _ h i; have h2 := mesh_lev _ _ _ h (i + 1)
  unfold coarse
  by_cases g : levAt l (i + 1) < levAt l i
  · rw [if_pos g]; exact ⟨hi, by omega⟩
  · rw [if_neg g]; exact ⟨by omega, by omega⟩
/-- balance: as many splits as may be needed -/
def balN : Nat → List Cell → List Cell
  | 0, l => l
  | n + 1, l => if unb l < 0 then l else balN n (splitL l (coarse l (unb l).toNat))
theorem balN_ok : ∀ (n : Nat) (l : List Cell) (r : Int), meshGo r 0 l = true → 129 ≤ n + l.length → meshGo r 0 (balN n l) = true ∧ unb (balN n l) < 0
  | 0, l, r, h, hn => by have := mesh_len h; omega
  | n + 1, l, r, h, hn => by
    unfold balN
    by_cases g : unb l < 0
    · rw [if_pos g]; exact ⟨h, g⟩
    · rw [if_neg g]
      obtain ⟨j, e, h1, h2⟩ := unb_at (by omega : 0 ≤ unb l)
      have c := coarse_ok h h1 h2
      rw [e, Int.toNat_natCast]
      exact balN_ok n _ r (split_mesh h c.1 c.2) (by rw [splitL_len c.1]; omega)
def bal (l : List Cell) : List Cell := balN (129 - l.length) l
theorem bal_ok {l : List Cell} {r : Int} (h : meshGo r 0 l = true) : meshGo r 0 (bal l) = true ∧ unb (bal l) < 0 := balN_ok _ l r h (by have := mesh_len h; omega)
abbrev par (x : Cell) : Cell := (x.1, x.2.1 - 1, x.2.2 / 2)
def sib (a b : Cell) : Bool := idOk a.1 a.2.1 a.2.2 && (idOk b.1 b.2.1 b.2.2 && (decide (a.1 = b.1) && (decide (a.2.1 = b.2.1) && (decide (a.2.2 % 2 = 0) && decide (b.2.2 = a.2.2 + 1)))))
theorem par_ok {r l i : Int} (h : idOk r l i = true) (h' : idOk r l (i + 1) = true) (he : i % 2 = 0) : 1 ≤ l ∧ idOk r (l - 1) (i / 2) = true ∧ startOf r (l - 1) (i / 2) = startOf r l i ∧ startOf r l (i + 1) = startOf r l i + width l ∧ width l + width l = width (l - 1) := by
  have a := idOk_iff.1 h; have b := idOk_iff.1 h'
  have hl : 1 ≤ l := by
    rcases Int.lt_or_le l 1 with g | g
    · have : l = 0 := by omega
      subst this; rw [p20] at b; omega
    · exact g
  have q : l - 1 + 1 = l := by omega
  have hi : 2 * (i / 2) = i := by omega
  have p0 : idOk r (l - 1) (i / 2) = true := by
    rcases lev (inR_iff.2 a.2.1) with rfl | rfl | rfl | rfl | rfl
    · omega
    · rw [p21] at b; exact idOk_iff.2 ⟨a.1, by omega, by rw [show (1 : Int) - 1 = 0 from rfl, p20]; omega⟩
    · rw [p22] at b; exact idOk_iff.2 ⟨a.1, by omega, by rw [show (2 : Int) - 1 = 1 from rfl, p21]; omega⟩
    · rw [p23] at b; exact idOk_iff.2 ⟨a.1, by omega, by rw [show (3 : Int) - 1 = 2 from rfl, p22]; omega⟩
    · rw [p24] at b; exact idOk_iff.2 ⟨a.1, by omega, by rw [show (4 : Int) - 1 = 3 from rfl, p23]; omega⟩
  have c := child_ok p0 (by omega)
  rw [q, hi] at c
  exact ⟨hl, p0, c.2.2.1.symm, by rw [c.2.2.2.1, c.2.2.1], c.2.2.2.2⟩
def mergeL (l : List Cell) (i : Nat) : List Cell := l.take i ++ par (l.getD i zz3) :: l.drop (i + 2)
theorem mergeL_len {l : List Cell} {i : Nat} (h : i + 1 < l.length) : (mergeL l i).length + 1 = l.length := by
  simp only [mergeL, List.length_append, List.length_take, List.length_cons, List.length_drop]; omega
theorem merge_mesh {l : List Cell} {r p : Int} {i : Nat} (h : meshGo r p l = true) (hi : i + 1 < l.length) (hs : sib (l.getD i zz3) (l.getD (i + 1) zz3) = true) : meshGo r p (mergeL l i) = true := by
  rw [meshP] at *
  have e := cut_at (by omega : i < l.length) zz3
  rw [drop_at hi zz3] at e
  have h1 := h
  rw [e, okp_append, endp_append] at h1
  unfold mergeL
  rw [okp_append, endp_append]
  simp only [sib, Bool.and_eq_true, decide_eq_true_eq] at hs
  simp only [okp_cons, endp_cons, Bool.and_eq_true] at h1 ⊢
  obtain ⟨s1, s2, s3, s4, s5, s6⟩ := hs
  have s2' := s2
  rw [← s3, ← s4, s6] at s2'
  have c := par_ok s1 s2' s5
  have e2 : width (l.getD (i + 1) zz3).2.1 = width (l.getD i zz3).2.1 := by rw [s4]
  rw [e2] at h1
  refine ⟨⟨h1.1.1, c.2.1, ?_, ?_⟩, h1.2.1, ?_⟩
  · rw [c.2.2.1]; exact h1.1.2.2.1
  · rw [← c.2.2.2.2, ← Int.add_assoc]; exact h1.1.2.2.2.2.2
  · rw [← c.2.2.2.2, ← Int.add_assoc]; exact h1.2.2
end Go.Proofs.Ytfgccfajhedgdaa
