/- The row of a law whose texts read a number of the library's own besides tables. -/
import Derived.Test.YtjfjniebmdafeaaGreatDoorE26
import Derived.HandedShaped
import Derived.Shelf.Vars
namespace Go.Ev
open Go Go.RowKit Go.Sort
set_option linter.unusedVariables false
set_option linter.unusedSimpArgs false
section
variable {H : Type} {enc : TypeId × Value → H}
theorem returnsInHanded_and_shaped {a : Assume} {C : Checked} {os : Os} {f : FuncId} {fn : Func} {s : ChangeSpec} {conds : List PathCond} {apart fresh handsOn again : Bool} {X : World → Prop}
    (hX : ∀ (w w' : World), w.heap = w'.heap → X w → X w')
    (own : ownKnob C.prog.godebug = none) (started : os.Started) (noInit : C.prog.inits.idxOf? f = none) (hfn : C.prog.funcs[f]? = some fn)
    (witness : ∃ (w : World) (tape : Tape) (i : Input), w.os = os ∧ (w.forCall tape i).Shaped C.prog ∧ i.vars = [] ∧ Input.okWide C.prog (w.forCall tape i) .any w.heap.size f i ∧
      ((s.pre enc C.prog fn conds apart (w.forCall tape i).memory i.args ∧ X (w.forCall tape i).memory) ∧ sizedMet enc C.prog fn (OpenSpec.ofChange s) apart (w.forCall tape i).memory i.args) ∧ a.holds C.prog (lone (Frame.enter C.prog f i.args .normal) [] (w.forCall tape i)))
    (contract : ∀ (W : World) (base : Nat) (args : Array Value) (ds gs : List (DataW H)) (before : List MemPlace),
      (∀ (j : Nat) t v, fn.params[j]? = some t → args[j]? = some v → Value.okWide C.prog W .any base t v) →
      DataW.Whole enc C.prog fn.params.toList s.vars apart W args.toList ds gs before →
      conds.all (PathCond.test C.prog ⟨fn.params.toList, ds, s.plain.varTypes C.prog, gs⟩) = true →
      (DataW.weightsEach C.prog (fn.params.toList ++ s.plain.varTypes C.prog) (ds ++ gs)).all (· ≤ reachBytes) = true → X W → W.ShapedOpen C.prog →
      a.holds C.prog (lone (Frame.enter C.prog f args .normal) [] W) →
      Calls C.prog f args W fun e W' => ∃ v, e = .returned v ∧ s.post enc C.prog fn apart fresh handsOn again W args v W') :
    ReturnsInHanded a C os f .any (fun w args => (s.pre enc C.prog fn conds apart w args ∧ X w) ∧ sizedMet enc C.prog fn (OpenSpec.ofChange s) apart w args) (s.post enc C.prog fn apart fresh handsOn again) := by
  refine returnsInHanded_of_calls own started noInit witness ?_
  intro w tape i _ hsh _ hok hpre hholds
  obtain ⟨_, _, _, fn', hfn', _, _, _, _, hval⟩ := hok
  have e : fn' = fn := Option.some.inj (hfn'.symm.trans hfn)
  subst e
  obtain ⟨⟨⟨ds, gs, before, hw, hc⟩, hx⟩, hz⟩ := hpre
  have hw' := DataW.Whole.of_heap (w' := w.forCall tape i) (by rfl) hw
  refine (contract (w.forCall tape i) w.heap.size i.args ds gs before hval hw' hc (hz.weights hw) (hX _ _ (by rfl) hx) hsh hholds).mono fun e W' ⟨v, he, hp⟩ => ?_
  subst he
  exact ChangeSpec.post_blind hp
/-- THE ROW, tables laid, the world as the package begins it: the law answers true on all data of its arguments' types -/
theorem returns_laidS {X : World → Prop} {a : Assume} {C : Checked} {os : Os} {f : FuncId} {fn : Func} {s : ChangeSpec} {conds : List PathCond} {apart fresh handsOn : Bool} {A : Ann} {tb : TypeId}
    (hX : ∀ w w' : World, w.heap = w'.heap → X w → X w') (hK : ∀ w, w.ShapedOpen C.prog → X w → Kept w)
    (own : ownKnob C.prog.godebug = none) (started : os.Started) (noInit : C.prog.inits.idxOf? f = none) (hfn : C.prog.funcs[f]? = some fn)
    (witness : ∃ (w : World) (tape : Tape) (i : Input), w.os = os ∧ (w.forCall tape i).Shaped C.prog ∧ i.vars = [] ∧ Input.okWide C.prog (w.forCall tape i) .any w.heap.size f i ∧
      ((s.pre enc C.prog fn conds apart (w.forCall tape i).memory i.args ∧ X (w.forCall tape i).memory) ∧ sizedMet enc C.prog fn (OpenSpec.ofChange s) apart (w.forCall tape i).memory i.args) ∧ a.holds C.prog (lone (Frame.enter C.prog f i.args .normal) [] (w.forCall tape i)))
    (G : Good C.prog) (hext : ∀ f g, A.ext f = some g → ∀ ds rs, g ds = some rs → Contract C.prog f (A.mode f) ds rs) (hmode : A.mode f = []) (laid : laidOutB C.prog = true)
    (hp : (fn.params.toList.all fun t => flatOk C.prog 8 t && C.prog.readableRec t && decide (t < C.prog.types.size)) = true) (hres : fn.resultTypes = #[tb]) (htb : C.prog.underlying tb = some .bool) (hvars : s.vars = [])
    (hspec : ∀ ds : List (DataW H), ds.length = fn.params.size → s.fn H ds = { results := [.lit (.bool true)], args := ds })
    (hev : ∀ ds : List D, All2 (PFits C.prog) fn.params.toList ds → ∃ k, ev C.prog A k f ds = some [.bool true]) :
    ReturnsInHanded a C os f .any (fun w args => (s.pre enc C.prog fn conds apart w args ∧ X w) ∧ sizedMet enc C.prog fn (OpenSpec.ofChange s) apart w args) (s.post enc C.prog fn apart fresh handsOn false) := by
  have hp' : ∀ t ∈ fn.params.toList, flatOk C.prog 8 t = true ∧ C.prog.readableRec t = true ∧ t < C.prog.types.size := by
    intro t ht
    have := List.all_eq_true.1 hp t ht
    simp only [Bool.and_eq_true, decide_eq_true_eq] at this
    exact ⟨this.1.1, this.1.2, this.2⟩
  refine returnsInHanded_and_shaped (X := X) hX own started noInit hfn witness ?_
  intro W base args ds gs before hval hW _ _ hL hsh _
  obtain ⟨p, q, hA, hV, hbe, hfz, hnd⟩ := hW
  obtain ⟨es, F, h1, h2, h3⟩ := args_open fn.params.toList args.toList ds p (fun t ht => (hp' t ht).1) (fun j t v h1 h2 => hval j t v (by simpa using h1) (by simpa using h2)) hA
  obtain ⟨k, hk⟩ := hev es h3
  obtain ⟨fn', hfn', _, hcalls⟩ := ev_contract G hext hk
  rw [hfn] at hfn'; cases hfn'
  have hof : Off (ownOf F) := fun x hx off h => h2.own h
  refine (hcalls W args F (hK W hsh hL) hof h1 h2.sep).mono fun e W' hpost => ?_
  obtain ⟨outs, F', rfl, hlen, hr, _, hfr, _, _, _, _⟩ := hpost
  have hm : ∀ (vs : List Value), muts ([] : List Bool) vs = [] := by
    intro vs
    induction vs with
    | nil => rfl
    | cons v vs ih => simp [muts, ih]
  rw [hmode, hm, List.append_nil] at hr
  simp only [RepDs, RepD] at hr
  obtain ⟨u, us, F1, F2, rfl, _, ⟨rfl, _⟩, rfl, _⟩ := hr
  have bel : Below W.heap.size W W' := Fr.below (hfr.mono fun b off _ h => (h2.own h).elim)
  rw [hvars] at hV
  have hgs : gs = [] := by cases gs with | nil => rfl | cons _ _ => exact hV.elim
  subst hgs
  have hq : q = [] := hV
  subst hq
  have hl := trodAll_lengths _ _ _ _ hA
  have hs := hspec (ds ++ []) (by simpa using hl)
  refine ⟨_, rfl, ds, [], before, [], p, [], ⟨p, [], hA, by rw [hvars]; exact hV, hbe, hfz, hnd⟩, ?_, ?_, ?_, bel.frame _, fun h => by cases h⟩
  · rw [hs, hres]
    exact ChangeShapes.trodAll_mk1 (Go.RowKit.shut_bool htb _)
  · rw [hs, List.append_nil]
    exact trodAll_below laid bel _ _ _ _ (fun t ht => (hp' t ht).2) hA
  · rw [hs, hvars]
    rfl
end
end Go.Ev
