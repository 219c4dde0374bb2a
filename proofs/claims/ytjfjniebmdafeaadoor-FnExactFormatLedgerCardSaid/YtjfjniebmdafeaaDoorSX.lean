/- Texts under the evaluator: contracts of what writes them. -/
import Derived.Test.YtjfjniebmdafeaaDoorSW
import Derived.Test.YtjfjniebmdafeaaDoorXA
import Derived.Test.YtjfjniebmdafeaaDoorWB
namespace Go.Proofs.YtjfjniebmdafeaaDoor
open Go.RowKit Go.Lib Go.Ev Go.Shelf Go.Sort
set_option linter.unusedVariables false
set_option linter.unusedSimpArgs false
theorem ok_str (s : ByteArray) : okTs Tryd.prog [9] [.str s] = true := by kernel_rfl
theorem k_itoa (ds rs : List D) (h : itoaGo ds = some rs) : Contract Tryd.prog 76 [] ds rs := by
  unfold itoaGo at h
  split at h
  · rename_i n
    cases hn : inI64 n
    · rw [hn] at h; cases h
    rw [hn] at h
    have h := Option.some.inj (show some _ = some rs from h)
    subst h
    refine str_contract (fn := Tryd.f76) (S := 9) Tryd.func76 (by kernel_rfl) (by kernel_rfl) (ok_str _) (fun w args FF hk hd => ?_)
    simp only [RepDs, RepD] at hd
    obtain ⟨u, us, F1, F2, e0, rfl, ⟨rfl, rfl⟩, rfl, rfl⟩ := hd
    have ha : args = #[.int .i64 n] := by rw [← Array.toArray_toList (xs := args), e0]
    subst ha
    exact itoa_c n hn w hk
  · cases h
theorem k_spaced (ds rs : List D) (h : spacedGo ds = some rs) : Contract Tryd.prog 36 [] ds rs := by
  unfold spacedGo at h
  split at h
  · rename_i wd z l
    cases hn : (decide (wd.size ≤ 1000) && (decide (l.length ≤ 1000) && l.all inI64))
    · rw [hn] at h; cases h
    rw [hn] at h
    have h := Option.some.inj (show some _ = some rs from h)
    subst h
    simp only [Bool.and_eq_true, decide_eq_true_eq, List.all_eq_true] at hn
    obtain ⟨hw, hl, hx⟩ := hn
    refine str_contract (fn := Tryd.f36) (S := 9) Tryd.func36 (by kernel_rfl) (by kernel_rfl) (ok_str _) (fun w args FF hk hd => ?_)
    simp only [RepDs, RepD] at hd
    obtain ⟨u0, us0, F0, F0', e0, rfl, ⟨rfl, rfl⟩, u1, us1, F1, F1', rfl, rfl, ⟨p, rfl, rp, rfl⟩, rfl, rfl⟩ := hd
    have ha : args = #[.string wd, .slice p.base p.len p.cap] := by rw [← Array.toArray_toList (xs := args), e0]
    subst ha
    obtain ⟨r1, r2, r3, r4, r5, r6⟩ := rp
    have r1' : l.length = p.len := r1
    cases hb : p.base with
    | none =>
      have h0 := (r4 hb).2
      have : l = [] := List.eq_nil_of_length_eq_zero (by omega)
      subst this
      rw [h0]
      exact spaced_nil wd p.cap w hk hw
    | some b =>
      have hc := (r5 b hb).2
      rw [← r1']
      refine spaced_walk wd l b p.cap w hk hw hl hx (fun i x hi => hc i _ ?_)
      show (l.map fun n => Value.int .i64 n)[i]? = _
      rw [List.getElem?_map, hi]; rfl
  · cases h
theorem withExt : ∀ f g, An.ext f = some g → ∀ ds rs, g ds = some rs → Contract Tryd.prog f (An.mode f) ds rs := by
  intro f g h ds rs hd
  by_cases h1 : f = 76
  · subst h1
    have e : An.ext 76 = some itoaGo := rfl
    rw [e] at h; cases h
    exact k_itoa ds rs hd
  by_cases h2 : f = 36
  · subst h2
    have e : An.ext 36 = some spacedGo := rfl
    rw [e] at h; cases h
    exact k_spaced ds rs hd
  have n1 : Nat.beq f 76 = false := by cases b : Nat.beq f 76 with | false => rfl | true => exact absurd (Nat.eq_of_beq_eq_true b) h1
  have n2 : Nat.beq f 36 = false := by cases b : Nat.beq f 36 with | false => rfl | true => exact absurd (Nat.eq_of_beq_eq_true b) h2
  have e : An.ext f = none := by show cond (Nat.beq f 76) (some itoaGo) (cond (Nat.beq f 36) (some spacedGo) none) = none; rw [n1, n2]; rfl
  rw [e] at h; cases h
theorem c_strconv_Itoa (k : Nat) (n : Int) (hn : inI64 n = true) : go (k + 1) strconv_Itoa [.int .i64 n] = some [.str ⟨(Lib.itoa n).toArray⟩] := by
  have e : go (k + 1) strconv_Itoa [.int .i64 n] = itoaGo [.int .i64 n] := Eq.trans rfl rfl
  rw [e]; show (bif inI64 n then some [D.str ⟨(Lib.itoa n).toArray⟩] else none) = _; rw [hn]; rfl
theorem c_impl_spaced (k : Nat) (wd : ByteArray) (z : Bool) (l : List Int) (hw : wd.size ≤ 1000) (hl : l.length ≤ 1000) (hx : l.all inI64 = true) : go (k + 1) impl_spaced [.str wd, .arr false z (.ints .i64 l)] = some [.str ⟨(spacedL wd.data.toList l).toArray⟩] := by
  have e : go (k + 1) impl_spaced [.str wd, .arr false z (.ints .i64 l)] = spacedGo [.str wd, .arr false z (.ints .i64 l)] := Eq.trans rfl rfl
  rw [e]; show (bif (decide (wd.size ≤ 1000) && (decide (l.length ≤ 1000) && l.all inI64)) then some [D.str ⟨(spacedL wd.data.toList l).toArray⟩] else none) = _; rw [hx, decide_eq_true hw, decide_eq_true hl]; rfl
end Go.Proofs.YtjfjniebmdafeaaDoor
