/- slices.Replace under the evaluator. Made by rw.py. -/
import Derived.Test.YtfgccfajhedgdaaRX
import Derived.Test.YtfgccfajhedgdaaWB
set_option linter.unusedVariables false
set_option linter.unusedSimpArgs false
namespace Go.Proofs.Ytfgccfajhedgdaa
open Go.RowKit Go.Lib Go.Ev Go.Shelf

theorem c_slices_Replace_int (k : Nat) (z z' : Bool) (l v : List Int) (i j : Int) (hi : 0 ≤ i) (hij : i < j) (hj : j ≤ (l.length : Int)) (hv : 1 ≤ v.length) (hne : ¬ i + (v.length : Int) = j) (hl : l.length ≤ 1048576) (hvl : v.length ≤ 1048576) :
    go (k + 1) slices_Replace_int_int [.arr true z (.ints .i64 l), .int .i64 i, .int .i64 j, .arr false z' (.ints .i64 v)] = some [.arr true false (.ints .i64 (l.take i.toNat ++ v ++ l.drop j.toNat))] := by
  have e : go (k + 1) slices_Replace_int_int [.arr true z (.ints .i64 l), .int .i64 i, .int .i64 j, .arr false z' (.ints .i64 v)] = repGo (.ints .i64 l) (.ints .i64 v) i j := Eq.trans rfl rfl
  have hl' : (Arr.len (Arr.ints .i64 l)) = l.length := rfl
  have hv' : (Arr.len (Arr.ints .i64 v)) = v.length := rfl
  have hr : repA (.ints .i64 l) (.ints .i64 v) i.toNat j.toNat = some (.ints .i64 (l.take i.toNat ++ v ++ l.drop j.toNat)) := by
    have hd : List.take (l.length - j.toNat) (List.drop j.toNat l) = List.drop j.toNat l := List.take_of_length_le (by rw [List.length_drop]; omega)
    simp [repA, Arr.sub, Arr.app, Arr.len, hd]
  rw [e]
  unfold repGo
  rw [hl', hv', hr]
  simp [hi, hij, hj, hv, hne, show l.length ≤ 549755813888 by omega, show v.length ≤ 549755813888 by omega]
theorem ok_int (x : List Int) : okTs Try.prog [25] [.arr true false (.ints .i64 x)] = true := by kernel_rfl
set_option maxRecDepth 100000 in
theorem k_slices_Replace_int (ds rs : List D) (h : repI ds = some rs) : Contract Try.prog 207 [] ds rs := by
  unfold repI at h
  split at h
  · rename_i z l i j z' v
    unfold repGo at h
    cases hc : (decide (0 ≤ i) && decide (i < j) && decide (j ≤ ((Arr.len (Arr.ints .i64 l)) : Int)) && decide (1 ≤ (Arr.len (Arr.ints .i64 v))) && !decide (i + ((Arr.len (Arr.ints .i64 v)) : Int) = j) && decide ((Arr.len (Arr.ints .i64 l)) ≤ 549755813888) && decide ((Arr.len (Arr.ints .i64 v)) ≤ 549755813888))
    · rw [hc] at h; cases h
    rw [hc, condT, Option.map_eq_some_iff] at h
    obtain ⟨c, hr, rfl⟩ := h
    simp only [Bool.and_eq_true, decide_eq_true_eq, Bool.not_eq_true', decide_eq_false_iff_not] at hc
    obtain ⟨⟨⟨⟨⟨⟨h1, h2⟩, h3⟩, h4⟩, h5⟩, h6⟩, h7⟩ := hc
    have hck : okTs Try.prog [25] [.arr true false c] = true := by
      have : c = .ints .i64 (l.take i.toNat ++ v ++ l.drop j.toNat) := by
        have hd : List.take (l.length - j.toNat) (List.drop j.toNat l) = List.drop j.toNat l := List.take_of_length_le (by rw [List.length_drop]; omega)
        simp [repA, Arr.sub, Arr.app, Arr.len, hd] at hr
        rw [← hr]; simp
      rw [this]; exact ok_int _
    refine rep_contract (fn := Try.f207) (S := 25) Try.func207 (by kernel_rfl) (by kernel_rfl) hck h1 h2 h3 h4 rfl hr (fun w g cap vc x e' own hx hv => ?_)
    exact rep_int w g _ cap _ _ _ vc x _ _ e' (by omega) (by omega) h4 (by omega) h6 h7 own hx (Arr.cells_length _) hv (Arr.cells_one _) (Arr.cells_one _)
  · cases h

theorem c_slices_Replace_id (k : Nat) (z z' : Bool) (l v : List (Int × Int × Int)) (i j : Int) (hi : 0 ≤ i) (hij : i < j) (hj : j ≤ (l.length : Int)) (hv : 1 ≤ v.length) (hne : ¬ i + (v.length : Int) = j) (hl : l.length ≤ 1048576) (hvl : v.length ≤ 1048576) :
    go (k + 1) slices_Replace_impl_Id_impl_Id [.arr true z (.r3 l), .int .i64 i, .int .i64 j, .arr false z' (.r3 v)] = some [.arr true false (.r3 (l.take i.toNat ++ v ++ l.drop j.toNat))] := by
  have e : go (k + 1) slices_Replace_impl_Id_impl_Id [.arr true z (.r3 l), .int .i64 i, .int .i64 j, .arr false z' (.r3 v)] = repGo (.r3 l) (.r3 v) i j := Eq.trans rfl rfl
  have hl' : (Arr.len (Arr.r3 l)) = l.length := rfl
  have hv' : (Arr.len (Arr.r3 v)) = v.length := rfl
  have hr : repA (.r3 l) (.r3 v) i.toNat j.toNat = some (.r3 (l.take i.toNat ++ v ++ l.drop j.toNat)) := by
    have hd : List.take (l.length - j.toNat) (List.drop j.toNat l) = List.drop j.toNat l := List.take_of_length_le (by rw [List.length_drop]; omega)
    simp [repA, Arr.sub, Arr.app, Arr.len, hd]
  rw [e]
  unfold repGo
  rw [hl', hv', hr]
  simp [hi, hij, hj, hv, hne, show l.length ≤ 549755813888 by omega, show v.length ≤ 549755813888 by omega]
theorem ok_id (x : List (Int × Int × Int)) : okTs Try.prog [29] [.arr true false (.r3 x)] = true := by kernel_rfl
set_option maxRecDepth 100000 in
theorem k_slices_Replace_id (ds rs : List D) (h : rep3 ds = some rs) : Contract Try.prog 218 [] ds rs := by
  unfold rep3 at h
  split at h
  · rename_i z l i j z' v
    unfold repGo at h
    cases hc : (decide (0 ≤ i) && decide (i < j) && decide (j ≤ ((Arr.len (Arr.r3 l)) : Int)) && decide (1 ≤ (Arr.len (Arr.r3 v))) && !decide (i + ((Arr.len (Arr.r3 v)) : Int) = j) && decide ((Arr.len (Arr.r3 l)) ≤ 549755813888) && decide ((Arr.len (Arr.r3 v)) ≤ 549755813888))
    · rw [hc] at h; cases h
    rw [hc, condT, Option.map_eq_some_iff] at h
    obtain ⟨c, hr, rfl⟩ := h
    simp only [Bool.and_eq_true, decide_eq_true_eq, Bool.not_eq_true', decide_eq_false_iff_not] at hc
    obtain ⟨⟨⟨⟨⟨⟨h1, h2⟩, h3⟩, h4⟩, h5⟩, h6⟩, h7⟩ := hc
    have hck : okTs Try.prog [29] [.arr true false c] = true := by
      have : c = .r3 (l.take i.toNat ++ v ++ l.drop j.toNat) := by
        have hd : List.take (l.length - j.toNat) (List.drop j.toNat l) = List.drop j.toNat l := List.take_of_length_le (by rw [List.length_drop]; omega)
        simp [repA, Arr.sub, Arr.app, Arr.len, hd] at hr
        rw [← hr]; simp
      rw [this]; exact ok_id _
    refine rep_contract (fn := Try.f218) (S := 29) Try.func218 (by kernel_rfl) (by kernel_rfl) hck h1 h2 h3 h4 rfl hr (fun w g cap vc x e' own hx hv => ?_)
    exact rep_id w g _ cap _ _ _ vc x _ _ e' (by omega) (by omega) h4 (by omega) h6 h7 own hx (Arr.cells_length _) hv (Arr.cells_one _) (Arr.cells_one _)
  · cases h

theorem withExt : ∀ f g, An.ext f = some g → ∀ ds rs, g ds = some rs → Contract Try.prog f (An.mode f) ds rs := by
  intro f g h ds rs hd
  by_cases h1 : f = 207
  · subst h1
    have e : An.ext 207 = some repI := rfl
    rw [e] at h; cases h
    exact k_slices_Replace_int ds rs hd
  by_cases h2 : f = 218
  · subst h2
    have e : An.ext 218 = some rep3 := rfl
    rw [e] at h; cases h
    exact k_slices_Replace_id ds rs hd
  have n1 : Nat.beq f 207 = false := by cases b : Nat.beq f 207 with | false => rfl | true => exact absurd (Nat.eq_of_beq_eq_true b) h1
  have n2 : Nat.beq f 218 = false := by cases b : Nat.beq f 218 with | false => rfl | true => exact absurd (Nat.eq_of_beq_eq_true b) h2
  have e : An.ext f = none := by show cond (Nat.beq f 207) (some repI) (cond (Nat.beq f 218) (some rep3) none) = none; rw [n1, n2]; rfl
  rw [e] at h; cases h
end Go.Proofs.Ytfgccfajhedgdaa
