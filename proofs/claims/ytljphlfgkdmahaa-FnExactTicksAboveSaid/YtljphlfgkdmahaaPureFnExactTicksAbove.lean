/- both TicksAbove count alike from each place on; so the law answers true for all arguments. No further condition. -/
import Derived.Test.YtljphlfgkdmahaaPFnExactTicksAbovex1
import Derived.Test.YtljphlfgkdmahaaWSized
namespace Go.Proofs.Ytljphlfgkdmahaa.fnExactTicksAbove.PrintWords
open Go.ChangeShapes Go.WideShapes
theorem sized_ints {H : Type} {enc : TypeId × Value → H} {P : Program} {W : World} {base : Nat} {spare : Nat → Bool} {held : Bool} {t e : TypeId} {k : IntKind} {a : Option Addr} {len cap : Nat} {d : DataW H} {ps : List MemPlace} {ts : List TypeId} {ds : List (DataW H)} {j : Nat}
    (hsz : (DataW.weightsEach P ts ds).all (· ≤ reachBytes) = true) (ht : ts[j]? = some t) (hd : ds[j]? = some d) (hu : P.underlying t = some (.slice e)) (he : P.underlying e = some (.int k)) (hc : P.cellsOf e = 1) {B : Nat} (hB : P.bytesOf e = B)
    (h : DataW.Trod enc P W base spare held t (.slice a len cap) d ps) : len * B ≤ 140737488351232 :=
  Go.Proofs.YtljphlfgkdmahaaW.PrintWords.sized_ints hsz ht hd hu he hc hB h
end Go.Proofs.Ytljphlfgkdmahaa.fnExactTicksAbove.PrintWords
namespace Go.Proofs.Ytljphlfgkdmahaa.Pure
open Go.RowKit Go.Proofs.Ytljphlfgkdmahaa.PFnExactTicksAbove Go.Proofs.YtljphlfgkdmahaaW.PrintWords Go.Proofs.YtljphlfgkdmahaaW.PrintLast
set_option linter.unusedSimpArgs false
set_option linter.unusedVariables false

theorem TicksAbove.toInt_l (l : List Int) (hn : l.length ≤ 1048576) (d : Nat) : ∀ (k : Nat) (i : Nat) (x : List Int), x.length = l.length → i + d = l.length → x.take i = l.take i → d < k → laws_toIntS.l0 k l x (i : Int) = some l := by
  induction d with
  | zero =>
    intro k i x hx hi ht hk
    obtain ⟨k, rfl⟩ : ∃ m, k = m + 1 := ⟨k - 1, by omega⟩
    simp only [laws_toIntS.l0]; rw [if_neg (by omega)]
    have e1 : x.take i = x := List.take_of_length_le (by omega)
    have e2 : l.take i = l := List.take_of_length_le (by omega)
    rw [e1, e2] at ht; rw [ht]
  | succ d ih =>
    intro k i x hx hi ht hk
    obtain ⟨k, rfl⟩ : ∃ m, k = m + 1 := ⟨k - 1, by omega⟩
    simp only [laws_toIntS.l0]; rw [if_pos (by omega), if_pos (by omega), if_pos (by omega)]
    have e : wrap64 ((i : Int) + 1) = ((i + 1 : Nat) : Int) := by unfold wrap64; omega
    rw [e]; refine ih k (i + 1) _ (by simp [hx]) (by omega) ?_ (by omega)
    have hi1 : i < l.length := by omega
    have hi2 : i < x.length := by omega
    rw [List.take_succ_eq_append_getElem (by simpa using hi2), List.take_succ_eq_append_getElem hi1]
    simp [rd, List.take_set_of_le, ht, hi1]
theorem TicksAbove.toInt (l : List Int) (k : Nat) (hn : l.length ≤ 1048576) (hk : l.length < k) : laws_toIntS.f k l = some l := by
  unfold laws_toIntS.f
  rw [if_pos (by omega), if_pos (by omega)]
  exact TicksAbove.toInt_l l hn l.length k 0 _ (by simp) (by omega) (by simp) hk
theorem TicksAbove.eqInt_l (l : List Int) (hn : l.length ≤ 1048576) (d : Nat) : ∀ (k : Nat) (i : Nat), i + d = l.length → d < k → laws_eqIntS.l0 k l l (i : Int) = some true := by
  induction d with
  | zero =>
    intro k i hi hk
    obtain ⟨k, rfl⟩ : ∃ m, k = m + 1 := ⟨k - 1, by omega⟩
    simp only [laws_eqIntS.l0]; rw [if_neg (by omega)]
  | succ d ih =>
    intro k i hi hk
    obtain ⟨k, rfl⟩ : ∃ m, k = m + 1 := ⟨k - 1, by omega⟩
    simp only [laws_eqIntS.l0]; rw [if_pos (by omega), if_pos (by omega), if_pos (by omega), if_pos trivial]
    have e : wrap64 ((i : Int) + 1) = ((i + 1 : Nat) : Int) := by unfold wrap64; omega
    rw [e]; exact ih k (i + 1) (by omega) (by omega)
theorem TicksAbove.eqInt (l : List Int) (k : Nat) (hn : l.length ≤ 1048576) (hk : l.length < k) : laws_eqIntS.f k l l = some true := by
  unfold laws_eqIntS.f
  rw [if_pos rfl]; exact TicksAbove.eqInt_l l hn l.length k 0 (by omega) hk

theorem TicksAbove.both_l (l : List Int) (a : Int) (hn : l.length ≤ 1048576) (d : Nat) : ∀ (k : Nat) (i : Nat) (c : Int), i + d = l.length → d < k →
    ∃ r, spec_TicksAbove.l0 k l a c (i : Int) = some r ∧ impl_TicksAbove.l0 k a c l (l.length : Int) (i : Int) = some r := by
  induction d with
  | zero =>
    intro k i c hi hk
    obtain ⟨k, rfl⟩ : ∃ m, k = m + 1 := ⟨k - 1, by omega⟩
    refine ⟨c, ?_, ?_⟩
    · simp only [spec_TicksAbove.l0]; rw [if_neg (by omega)]
    · simp only [impl_TicksAbove.l0]; rw [if_neg (by omega)]
  | succ d ih =>
    intro k i c hi hk
    obtain ⟨k, rfl⟩ : ∃ m, k = m + 1 := ⟨k - 1, by omega⟩
    have e : wrap64 ((i : Int) + 1) = ((i + 1 : Nat) : Int) := by unfold wrap64; omega
    by_cases h : rd l i > a
    · obtain ⟨r, h1, h2⟩ := ih k (i + 1) (wrap64 (c + 1)) (by omega) (by omega)
      refine ⟨r, ?_, ?_⟩
      · simp only [spec_TicksAbove.l0]; rw [if_pos (by omega), if_pos (by omega), if_pos h, e]; exact h1
      · simp only [impl_TicksAbove.l0]; rw [if_pos (by omega), if_pos (by omega), if_pos (by omega), if_pos h, e]; exact h2
    · obtain ⟨r, h1, h2⟩ := ih k (i + 1) c (by omega) (by omega)
      refine ⟨r, ?_, ?_⟩
      · simp only [spec_TicksAbove.l0]; rw [if_pos (by omega), if_pos (by omega), if_neg h, e]; exact h1
      · simp only [impl_TicksAbove.l0]; rw [if_pos (by omega), if_pos (by omega), if_pos (by omega), if_neg h, e]; exact h2
theorem FnExactTicksAbove : laws_FnExactTicksAbove.Pure := by
  intro l a _ _ _ _
  by_cases hb : (l.length : Int) > 1048576
  · exact ⟨0, by unfold laws_FnExactTicksAbove.f; rw [if_pos hb]⟩
  · have hn : l.length ≤ 1048576 := by omega
    refine ⟨l.length + 1, ?_⟩
    obtain ⟨r, h1, h2⟩ := TicksAbove.both_l l a hn l.length (l.length + 1) 0 0 (by omega) (by omega)
    have t := TicksAbove.toInt l (l.length + 1) hn (by omega)
    have q := TicksAbove.eqInt l (l.length + 1) hn (by omega)
    have s1 : spec_TicksAbove.f (l.length + 1) l a = some r := h1
    have s2 : impl_TicksAbove.f (l.length + 1) l a = some r := h2
    unfold laws_FnExactTicksAbove.f
    rw [if_neg hb, t]; simp only [Option.bind_some]; rw [s1, s2]; simp only [Option.bind_some]; rw [if_pos trivial, q]; simp
end Go.Proofs.Ytljphlfgkdmahaa.Pure
