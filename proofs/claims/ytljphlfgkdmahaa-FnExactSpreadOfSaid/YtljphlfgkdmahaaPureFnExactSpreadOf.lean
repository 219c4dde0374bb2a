/- both SpreadOf add up the same differences, whatever wraps; so the law answers true for all arguments. No further condition. -/
import Derived.Test.YtljphlfgkdmahaaPFnExactSpreadOfx2
import Derived.Test.YtljphlfgkdmahaaWSized
namespace Go.Proofs.Ytljphlfgkdmahaa.fnExactSpreadOf.PrintWords
open Go.ChangeShapes Go.WideShapes
theorem sized_ints {H : Type} {enc : TypeId × Value → H} {P : Program} {W : World} {base : Nat} {spare : Nat → Bool} {held : Bool} {t e : TypeId} {k : IntKind} {a : Option Addr} {len cap : Nat} {d : DataW H} {ps : List MemPlace} {ts : List TypeId} {ds : List (DataW H)} {j : Nat}
    (hsz : (DataW.weightsEach P ts ds).all (· ≤ reachBytes) = true) (ht : ts[j]? = some t) (hd : ds[j]? = some d) (hu : P.underlying t = some (.slice e)) (he : P.underlying e = some (.int k)) (hc : P.cellsOf e = 1) {B : Nat} (hB : P.bytesOf e = B)
    (h : DataW.Trod enc P W base spare held t (.slice a len cap) d ps) : len * B ≤ 140737488351232 :=
  Go.Proofs.YtljphlfgkdmahaaW.PrintWords.sized_ints hsz ht hd hu he hc hB h
end Go.Proofs.Ytljphlfgkdmahaa.fnExactSpreadOf.PrintWords
namespace Go.Proofs.Ytljphlfgkdmahaa.Pure
open Go.RowKit Go.Proofs.Ytljphlfgkdmahaa.PFnExactSpreadOf Go.Proofs.YtljphlfgkdmahaaW.PrintWords Go.Proofs.YtljphlfgkdmahaaW.PrintLast
set_option linter.unusedSimpArgs false
set_option linter.unusedVariables false

theorem SpreadOf.toInt_l (l : List Int) (hn : l.length ≤ 1048576) (d : Nat) : ∀ (k : Nat) (i : Nat) (x : List Int), x.length = l.length → i + d = l.length → x.take i = l.take i → d < k → laws_toIntS.l0 k l x (i : Int) = some l := by
  induction d with
  | zero =>
    intro k i x hx hi ht hk
    obtain ⟨k, rfl⟩ : ∃ m, k = m + 1 := ⟨k - 1, by omega⟩
    simp only [laws_toIntS.l0]; rw [if_neg (by omega)]
    have e1 : x.take i = x := List.take_of_length_le (by omega)
    have e2 : l.take i = l := List.take_of_length_le (by omega)
    rw [e1, e2] at ht; rw [ht]
  | succ d ih =>
    intro k i x hx hi ht hk
    obtain ⟨k, rfl⟩ : ∃ m, k = m + 1 := ⟨k - 1, by omega⟩
    simp only [laws_toIntS.l0]; rw [if_pos (by omega), if_pos (by omega), if_pos (by omega)]
    have e : wrap64 ((i : Int) + 1) = ((i + 1 : Nat) : Int) := by unfold wrap64; omega
    rw [e]; refine ih k (i + 1) _ (by simp [hx]) (by omega) ?_ (by omega)
    have hi1 : i < l.length := by omega
    have hi2 : i < x.length := by omega
    rw [List.take_succ_eq_append_getElem (by simpa using hi2), List.take_succ_eq_append_getElem hi1]
    simp [rd, List.take_set_of_le, ht, hi1]
theorem SpreadOf.toInt (l : List Int) (k : Nat) (hn : l.length ≤ 1048576) (hk : l.length < k) : laws_toIntS.f k l = some l := by
  unfold laws_toIntS.f
  rw [if_pos (by omega), if_pos (by omega)]
  exact SpreadOf.toInt_l l hn l.length k 0 _ (by simp) (by omega) (by simp) hk
theorem SpreadOf.eqInt_l (l : List Int) (hn : l.length ≤ 1048576) (d : Nat) : ∀ (k : Nat) (i : Nat), i + d = l.length → d < k → laws_eqIntS.l0 k l l (i : Int) = some true := by
  induction d with
  | zero =>
    intro k i hi hk
    obtain ⟨k, rfl⟩ : ∃ m, k = m + 1 := ⟨k - 1, by omega⟩
    simp only [laws_eqIntS.l0]; rw [if_neg (by omega)]
  | succ d ih =>
    intro k i hi hk
    obtain ⟨k, rfl⟩ : ∃ m, k = m + 1 := ⟨k - 1, by omega⟩
    simp only [laws_eqIntS.l0]; rw [if_pos (by omega), if_pos (by omega), if_pos (by omega), if_pos trivial]
    have e : wrap64 ((i : Int) + 1) = ((i + 1 : Nat) : Int) := by unfold wrap64; omega
    rw [e]; exact ih k (i + 1) (by omega) (by omega)
theorem SpreadOf.eqInt (l : List Int) (k : Nat) (hn : l.length ≤ 1048576) (hk : l.length < k) : laws_eqIntS.f k l l = some true := by
  unfold laws_eqIntS.f
  rw [if_pos rfl]; exact SpreadOf.eqInt_l l hn l.length k 0 (by omega) hk

theorem SpreadOf.wr_sub (x h n : Int) : wrap64 (wrap64 (x + h) - n) = wrap64 (x + wrap64 (h - n)) := by unfold wrap64; omega
theorem SpreadOf.both_l (l m : List Int) (hn : l.length ≤ 1048576) (hm : m.length = l.length) (d : Nat) : ∀ (k : Nat) (i : Nat) (c : Int), i + d = l.length → d < k →
    ∃ r, spec_SpreadOf.l0 k l m c (i : Int) = some r ∧ impl_SpreadOf.l0 k m c l (l.length : Int) (i : Int) = some r := by
  induction d with
  | zero =>
    intro k i c hi hk
    obtain ⟨k, rfl⟩ : ∃ m, k = m + 1 := ⟨k - 1, by omega⟩
    refine ⟨c, ?_, ?_⟩
    · simp only [spec_SpreadOf.l0]; rw [if_neg (by omega)]
    · simp only [impl_SpreadOf.l0]; rw [if_neg (by omega)]
  | succ d ih =>
    intro k i c hi hk
    obtain ⟨k, rfl⟩ : ∃ m, k = m + 1 := ⟨k - 1, by omega⟩
    have e : wrap64 ((i : Int) + 1) = ((i + 1 : Nat) : Int) := by unfold wrap64; omega
    by_cases h1 : rd l i < 0
    · refine ⟨-1, ?_, ?_⟩
      · simp only [spec_SpreadOf.l0]; rw [if_pos (by omega), if_pos (by omega), if_pos h1]
      · simp only [impl_SpreadOf.l0]; rw [if_pos (by omega), if_pos (by omega), if_pos (by omega), if_pos h1]
    by_cases h2 : rd m i < rd l i
    · refine ⟨-1, ?_, ?_⟩
      · simp only [spec_SpreadOf.l0]; rw [if_pos (by omega), if_pos (by omega), if_neg h1, if_pos (by omega), if_pos h2]
      · simp only [impl_SpreadOf.l0]; rw [if_pos (by omega), if_pos (by omega), if_pos (by omega), if_neg h1, if_pos (by omega), if_pos (by omega)]
    by_cases h3 : rd m i > 10000000
    · refine ⟨-1, ?_, ?_⟩
      · simp only [spec_SpreadOf.l0]; rw [if_pos (by omega), if_pos (by omega), if_neg h1, if_pos (by omega), if_neg h2, if_pos h3]
      · simp only [impl_SpreadOf.l0]; rw [if_pos (by omega), if_pos (by omega), if_pos (by omega), if_neg h1, if_pos (by omega), if_neg (by omega), if_pos h3]
    obtain ⟨r, g1, g2⟩ := ih k (i + 1) (wrap64 (c + wrap64 (rd m i - rd l i))) (by omega) (by omega)
    refine ⟨r, ?_, ?_⟩
    · simp only [spec_SpreadOf.l0]; rw [if_pos (by omega), if_pos (by omega), if_neg h1, if_pos (by omega), if_neg h2, if_neg h3, e, SpreadOf.wr_sub]; exact g1
    · simp only [impl_SpreadOf.l0]; rw [if_pos (by omega), if_pos (by omega), if_pos (by omega), if_neg h1, if_pos (by omega), if_neg (by omega), if_neg h3, e]; exact g2
theorem SpreadOf.both (l m : List Int) (hn : l.length ≤ 1048576) (k : Nat) (hk : l.length + 1 < k) : ∃ r, spec_SpreadOf.f k l m = some r ∧ impl_SpreadOf.f k l m = some r := by
  obtain ⟨k, rfl⟩ : ∃ m, k = m + 1 := ⟨k - 1, by omega⟩
  unfold spec_SpreadOf.f impl_SpreadOf.f
  by_cases h : (l.length : Int) = (m.length : Int)
  · rw [if_pos h, if_pos h]
    simp only [spec_SpreadOf.j0, impl_SpreadOf.j0]
    by_cases g : (l.length : Int) > 1000
    · rw [decide_eq_true g]; exact ⟨_, rfl, rfl⟩
    · rw [decide_eq_false g, if_neg (by decide), if_neg (by decide)]
      exact SpreadOf.both_l l m hn (by omega) l.length k 0 0 (by omega) (by omega)
  · rw [if_neg h, if_neg h]
    simp only [spec_SpreadOf.j0, impl_SpreadOf.j0]
    exact ⟨_, rfl, rfl⟩
theorem FnExactSpreadOf : laws_FnExactSpreadOf.Pure := by
  intro l m _ _ _ _ _ _
  by_cases hb : (l.length : Int) > 1048576
  · exact ⟨0, by unfold laws_FnExactSpreadOf.f; rw [if_pos hb]⟩
  by_cases hc : (m.length : Int) > 1048576
  · exact ⟨0, by unfold laws_FnExactSpreadOf.f; rw [if_neg hb, if_pos hc]⟩
  · have hn : l.length ≤ 1048576 := by omega
    have hm : m.length ≤ 1048576 := by omega
    refine ⟨l.length + m.length + 2, ?_⟩
    obtain ⟨r, s1, s2⟩ := SpreadOf.both l m hn (l.length + m.length + 2) (by omega)
    have t := SpreadOf.toInt l (l.length + m.length + 2) hn (by omega)
    have q := SpreadOf.eqInt l (l.length + m.length + 2) hn (by omega)
    have t' := SpreadOf.toInt m (l.length + m.length + 2) hm (by omega)
    have q' := SpreadOf.eqInt m (l.length + m.length + 2) hm (by omega)
    unfold laws_FnExactSpreadOf.f
    rw [if_neg hb, if_neg hc, t, t']; simp only [Option.bind_some]; rw [s1, s2]; simp only [Option.bind_some]; rw [if_pos trivial, q]; simp only [Option.bind_some]; rw [if_pos trivial, q']; simp
end Go.Proofs.Ytljphlfgkdmahaa.Pure
