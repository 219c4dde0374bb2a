/- The evaluator: code; results; what a turned argument keeps. -/
import Derived.Test.YtfgccfajhedgdaaE20
namespace Go.Ev
set_option linter.unusedSimpArgs false
set_option linter.unusedVariables false
set_option linter.unnecessarySimpa false
open Go Go.RowKit

/-! results -/
section
variable {cal : Nat → List D → Option (List D)} {α : Type} {u : α} {P : Program} {w0 : World} {M : Nat → Nat → Prop} {ρ : Env} {g : Hp} {w : World}
theorem aggN'_ok {agg : Bool} {cs : List AV} {us : List Value} {K : AV → Prog α} {l : List Ac} (S : Sit0 cal (aggN' agg cs K) l u ρ g) (h : RepVs ρ cs us) :
    ∃ c, Sit0 cal (K c) l u ρ g ∧ RepV ρ c (ofCells agg us) ∧ (agg = false → us.length = 1) := by
  unfold aggN' at S
  split at S
  · rename_i ha
    refine ⟨_, S, ?_, fun h0 => by rw [ha] at h0; cases h0⟩
    simp only [RepV, ofCells, ha, if_true]
    exact ⟨us.toArray, rfl, by simpa using h⟩
  · rename_i ha
    split at S
    · simp only [RepVs] at h
      obtain ⟨v, us, rfl, h1, rfl⟩ := h
      exact ⟨_, S, by simpa [ofCells, ha] using h1, fun _ => rfl⟩
    · exact S.fail
theorem loadP'_ok (I : HeapOk ρ g w) {t : TypeId} {x : AV} {xv : Value} {K : AV → Prog α} {l : List Ac} (S : Sit0 cal (loadP' P t x K) l u ρ g) (hx : RepV ρ x xv) :
    ∃ c v l', Sit0 cal (K c) l' u ρ g ∧ Reads l l' ∧ RepV ρ c v ∧ (do loadVar t (← asAddr xv) : Sem Value).run P w = .ok v w := by
  unfold loadP' at S
  split at S
  · rename_i id i o
    have S0 := S.chk; clear S; obtain ⟨hk, S⟩ := S0
    simp only [RepV] at hx
    obtain ⟨p, a, hp, hb, hi, rfl⟩ := hx
    have S0 := S.rd; clear S; obtain ⟨l', rfl, S⟩ := S0
    split at S
    · rename_i own cs hg
      split at S
      · have S0 := S.chk; clear S; obtain ⟨hl, S⟩ := S0
        obtain ⟨q, hq, hr⟩ := I.rep id (by rw [hg]; simp)
        rw [hp] at hq; cases hq
        rw [hg] at hr
        obtain ⟨h1, y, us, hy, hs, hus, hcl, _⟩ := hr
        rw [hb] at hy; cases hy
        have hrep := (hus.drop o).take (P.cellsOf t)
        obtain ⟨c, S1, hc, h1'⟩ := aggN'_ok S hrep
        refine ⟨c, _, l', S1, (Reads.refl _).cons, hc, ?_⟩
        have hcells : CellsL w (a.add (0 * p.size + o)) ((us.drop o).take (P.cellsOf t)) := by
          rw [show 0 * p.size + o = o from by omega]; exact hcl.sub o _
        simp only [asAddr, Sem.run_bind, Sem.run_pure, Result.andThen_ok]
        exact loadVar_ok hk hcells (by rw [hrep.length]; exact Nat.eq_of_beq_eq_true hl) h1'
      · exact S.fail
    · exact S.fail
  · exact S.fail
def Res1 (P : Program) (tmps : Array Value) (w : World) : ResultVar → Value → Prop
  | .tmp t, v => v = tmps.getD t undef
  | .cell a t, v => (do loadVar t (← asAddr (tmps.getD a undef)) : Sem Value).run P w = .ok v w
def ResL (P : Program) (tmps : Array Value) (w : World) : List ResultVar → List Value → Prop
  | [], vs => vs = []
  | r :: rs, vs => ∃ v us, vs = v :: us ∧ Res1 P tmps w r v ∧ ResL P tmps w rs us
theorem loadAll_ok (I : HeapOk ρ g w) {fr : List AV} {tmps : Array Value} (h : RepVs ρ fr tmps.toList) : ∀ (rs : List ResultVar) {K : List AV → Prog α} {l : List Ac}, Sit0 cal (loadAll P fr rs K) l u ρ g →
    ∃ cs vs l', Sit0 cal (K cs) l' u ρ g ∧ Reads l l' ∧ RepVs ρ cs vs ∧ ResL P tmps w rs vs
  | [], K, l, S => ⟨[], [], l, by simpa only [loadAll] using S, .refl l, by simp [RepVs], rfl⟩
  | r :: rs, K, l, S => by
    simp only [loadAll] at S
    have one : ∃ c v l', Sit0 cal (loadAll P fr rs fun vs => K (c :: vs)) l' u ρ g ∧ Reads l l' ∧ RepV ρ c v ∧ Res1 P tmps w r v := by
      unfold loadRes at S
      cases r with
      | tmp t => exact ⟨_, _, l, S, .refl l, h.get t, by simp [Res1, Array.getD_eq_getD_getElem?]⟩
      | cell a t =>
        have hv := h.get a
        obtain ⟨c, v, l', S1, r1, hc, hr⟩ := loadP'_ok I S hv
        exact ⟨c, v, l', S1, r1, hc, by simp only [Res1]; rw [← hr]; simp [Array.getD_eq_getD_getElem?]⟩
    obtain ⟨c, v, l1, S1, r1, hc, hr⟩ := one
    obtain ⟨cs, vs, l2, S2, r2, hcs, hrs⟩ := loadAll_ok I h rs S1
    exact ⟨c :: cs, v :: vs, l2, S2, r1.trans r2, RepVs.cons hc hcs, v, vs, rfl, hr, hrs⟩
theorem ResL.length {tmps : Array Value} : ∀ {rs : List ResultVar} {vs : List Value}, ResL P tmps w rs vs → vs.length = rs.length
  | [], vs, h => by simp only [ResL] at h; simp [h]
  | r :: rs, vs, h => by
    simp only [ResL] at h
    obtain ⟨v, us, rfl, h1, h2⟩ := h
    simp [ResL.length h2]
theorem results_run {fn : Func} {tmps : Array Value} {vs : List Value} (h : ResL P tmps w fn.results.toList vs) : (results fn tmps).run P w = .ok (retVal vs) w := by
  have key : ∀ (rs : List ResultVar) (vs : List Value), ResL P tmps w rs vs → (rs.mapM fun (r : ResultVar) => (match r with
      | .tmp t => pure (tmps.getD t undef)
      | .cell a t => do loadVar t (← asAddr (tmps.getD a undef)) : Sem Value)).run P w = .ok vs w := by
    intro rs
    induction rs with
    | nil => intro vs h; simp only [ResL] at h; subst h; simp
    | cons r rs ih =>
      intro vs h
      simp only [ResL] at h
      obtain ⟨v, us, rfl, h1, h2⟩ := h
      have ih := ih us h2
      rw [List.mapM_cons]
      cases r with
      | tmp t => simp only [Res1] at h1; subst h1; simp only [Sem.run_bind, Sem.run_pure, Result.andThen_ok, ih]
      | cell a t => simp only [Res1] at h1; rw [Sem.run_bind, h1, Result.andThen_ok, Sem.run_bind, ih, Result.andThen_ok, Sem.run_pure]
  have k := key _ _ h
  unfold results
  rw [Array.mapM_eq_mapM_toList]
  rw [Sem.run_bind, Sem.run_map]
  generalize hk : Sem.run P (List.mapM _ fn.results.toList) w = r
  have hr : r = .ok vs w := hk.symm.trans k
  subst hr
  simp only [Result.andThen_ok, Sem.run_pure]
  cases vs with
  | nil => simp [retVal]
  | cons v vs => cases vs with
    | nil => simp [retVal]
    | cons _ _ => simp [retVal]
end
end Go.Ev
