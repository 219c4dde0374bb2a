/- Walks by hand: what values stand for behind calls. -/
import Derived.Test.YtcaapedadpnjoaaE26
import Derived.Below
import Derived.WalkKit
namespace Go.Ev
open Go Go.RowKit
set_option linter.unusedVariables false
set_option linter.unusedSimpArgs false
theorem fr_of_below {M : Nat → Nat → Prop} {w w' : World} (h : RowKit.Below w.heap.size w w') : Fr M w w' :=
  ⟨h.os, h.tape, h.output, h.size, fun b hb => .inr (.inl (h.block b hb))⟩
mutual
theorem RepD.frame {w w' : World} {N : Nat → Nat → Prop} (f : Fr N w w') : ∀ (d : D) {v : Value} {F : Feet}, RepD w d v F → (∀ A ∈ F, Apart A.2 N) → RepD w' d v F
  | .int k n, v, F, h, hn => by simpa only [RepD] using h
  | .bool b, v, F, h, hn => by simpa only [RepD] using h
  | .str s, v, F, h, hn => by simpa only [RepD] using h
  | .arr own nil a, v, F, h, hn => by
    simp only [RepD] at h ⊢
    obtain ⟨p, rfl, hr, rfl⟩ := h
    exact ⟨p, rfl, hr.frame f fun b off hb => hn _ (List.mem_singleton.2 rfl) b off (hb.resolve_right (fun h => h)), rfl⟩
  | .agg l, v, F, h, hn => by
    simp only [RepD] at h ⊢
    obtain ⟨vs, rfl, h⟩ := h
    exact ⟨vs, rfl, RepDs.frame f l h hn⟩
  | .ptr own l, v, F, h, hn => by
    simp only [RepD] at h ⊢
    obtain ⟨x, vs, F', rfl, hs, h, hc, ht, rfl⟩ := h
    have hl := h.length
    refine ⟨x, vs, F', rfl, hs, RepDs.frame f l h fun A hA => hn A (by simp [hA]), hc.frame f fun b off h1 h2 h3 => hn (own, boxFoot x l.length) (by simp) b off ⟨h1, h2, by omega⟩, fun ho j hj => ?_, rfl⟩
    rw [f.frozen (World.block_lt_of_cell? w _ (hc j _ (List.getElem?_eq_getElem hj)))]
    exact ht ho j hj
  | .fn f' l, v, F, h, hn => by
    simp only [RepD] at h ⊢
    obtain ⟨vs, rfl, h⟩ := h
    exact ⟨vs, rfl, RepDs.frame f l h hn⟩
  | .rows nil z l, v, F, h, hn => by
    simp only [RepD] at h ⊢
    obtain ⟨p, rfl, hr, rfl⟩ := h
    exact ⟨p, rfl, hr.frame f fun b off hb => hb.elim (fun h => hn _ (List.mem_cons_self) b off h) (fun h => hn _ (List.mem_cons_of_mem _ (List.mem_singleton.2 rfl)) b off h), rfl⟩
theorem RepDs.frame {w w' : World} {N : Nat → Nat → Prop} (f : Fr N w w') : ∀ (ds : List D) {vs : List Value} {F : Feet}, RepDs w ds vs F → (∀ A ∈ F, Apart A.2 N) → RepDs w' ds vs F
  | [], vs, F, h, hn => by simpa only [RepDs] using h
  | d :: ds, vs, F, h, hn => by
    simp only [RepDs] at h ⊢
    obtain ⟨u, us, F1, F2, rfl, rfl, h1, h2⟩ := h
    exact ⟨u, us, F1, F2, rfl, rfl, RepD.frame f d h1 fun A hA => hn A (by simp [hA]), RepDs.frame f ds h2 fun A hA => hn A (by simp [hA])⟩
end
theorem RepDs.below {w w' : World} (h : RowKit.Below w.heap.size w w') {ds : List D} {vs : List Value} {F : Feet} (r : RepDs w ds vs F) : RepDs w' ds vs F :=
  RepDs.frame (N := fun _ _ => False) (fr_of_below h) ds r fun A _ b off _ h => h
theorem RepD.below {w w' : World} (h : RowKit.Below w.heap.size w w') {d : D} {v : Value} {F : Feet} (r : RepD w d v F) : RepD w' d v F :=
  RepD.frame (N := fun _ _ => False) (fr_of_below h) d r fun A _ b off _ h => h
/-! to be read alone -/
mutual
def ro : D → D
  | .int k n => .int k n
  | .bool b => .bool b
  | .str s => .str s
  | .arr _ nil a => .arr false nil a
  | .agg l => .agg (ros l)
  | .ptr _ l => .ptr false (ros l)
  | .fn f l => .fn f (ros l)
  | .rows nil z l => .rows nil z l
def ros : List D → List D
  | [] => []
  | d :: ds => ro d :: ros ds
end
theorem ros_len : ∀ (ds : List D), (ros ds).length = ds.length
  | [] => rfl
  | d :: ds => by simp only [ros, List.length_cons, ros_len ds]
mutual
theorem RepD.ro {w : World} : ∀ (d : D) {v : Value} {F : Feet}, RepD w d v F → ∃ F', RepD w (Go.Ev.ro d) v F' ∧ Still F'
  | .int k n, v, F, h => by simp only [RepD] at h; exact ⟨[], by simp only [Go.Ev.ro, RepD]; exact ⟨h.1, trivial⟩, Still.nil⟩
  | .bool b, v, F, h => by simp only [RepD] at h; exact ⟨[], by simp only [Go.Ev.ro, RepD]; exact ⟨h.1, trivial⟩, Still.nil⟩
  | .str s, v, F, h => by simp only [RepD] at h; exact ⟨[], by simp only [Go.Ev.ro, RepD]; exact ⟨h.1, trivial⟩, Still.nil⟩
  | .arr own nil a, v, F, h => by
    simp only [RepD] at h
    obtain ⟨p, rfl, ⟨h1, h2, h3, h4, h5, _⟩, rfl⟩ := h
    refine ⟨[(false, foot p (.arr false nil a))], ?_, fun A hA => by rw [List.mem_singleton.1 hA]⟩
    simp only [Go.Ev.ro, RepD]
    exact ⟨p, rfl, ⟨h1, h2, h3, h4, h5, fun h => by cases h⟩, rfl⟩
  | .agg l, v, F, h => by
    simp only [RepD] at h
    obtain ⟨vs, rfl, h⟩ := h
    obtain ⟨F', h', s⟩ := RepDs.ro l h
    exact ⟨F', by simp only [Go.Ev.ro, RepD]; exact ⟨vs, rfl, h'⟩, s⟩
  | .ptr own l, v, F, h => by
    simp only [RepD] at h
    obtain ⟨x, vs, F', rfl, hs, h, hc, ht, rfl⟩ := h
    obtain ⟨F1, h', s⟩ := RepDs.ro l h
    refine ⟨F1 ++ [(false, boxFoot x (ros l).length)], by simp only [Go.Ev.ro, RepD]; exact ⟨x, vs, F1, rfl, hs, h', hc, (fun h => by cases h), rfl⟩, s.append fun A hA => by rw [List.mem_singleton.1 hA]⟩
  | .fn f l, v, F, h => by
    simp only [RepD] at h
    obtain ⟨vs, rfl, h⟩ := h
    obtain ⟨F', h', s⟩ := RepDs.ro l h
    exact ⟨F', by simp only [Go.Ev.ro, RepD]; exact ⟨vs, rfl, h'⟩, s⟩
  | .rows nil z l, v, F, h => by
    simp only [RepD] at h
    obtain ⟨p, rfl, hr, rfl⟩ := h
    refine ⟨_, by simp only [Go.Ev.ro, RepD]; exact ⟨p, rfl, hr, rfl⟩, fun A hA => ?_⟩
    rcases List.mem_cons.1 hA with rfl | hA
    · rfl
    · rw [List.mem_singleton.1 hA]
theorem RepDs.ro {w : World} : ∀ (ds : List D) {vs : List Value} {F : Feet}, RepDs w ds vs F → ∃ F', RepDs w (ros ds) vs F' ∧ Still F'
  | [], vs, F, h => ⟨[], by simp only [RepDs] at h; simp only [ros, RepDs]; exact ⟨h.1, trivial⟩, Still.nil⟩
  | d :: ds, vs, F, h => by
    simp only [RepDs] at h
    obtain ⟨u, us, F1, F2, rfl, rfl, h1, h2⟩ := h
    obtain ⟨G1, k1, s1⟩ := RepD.ro d h1
    obtain ⟨G2, k2, s2⟩ := RepDs.ro ds h2
    exact ⟨G1 ++ G2, by simp only [ros, RepDs]; exact ⟨u, us, G1, G2, rfl, rfl, k1, k2⟩, s1.append s2⟩
end
theorem muts_nil {α : Type} (vs : List α) : muts ([] : List Bool) vs = [] := by
  induction vs with
  | nil => rfl
  | cons v vs ih => simp [muts, ih]
/-- a call that turns nothing -/
theorem Contract.still {P : Program} {f : Nat} {ds rs : List D} (h : Contract P f [] ds rs) {w : World} {args : Array Value} {F : Feet} (hd : RepDs w ds args.toList F) (hF : Still F) :
    Calls P f args w fun e w' => ∃ outs F', e = .returned (retVal outs) ∧ RepDs w' rs outs F' ∧ Sep F' ∧ (∀ b off, ownOf F' b off → w.heap.size ≤ b) ∧ RowKit.Below w.heap.size w w' := by
  obtain ⟨fn, _, _, hc⟩ := h
  refine (hc w args F hd hF.sep).mono ?_
  rintro e w' ⟨outs, F', rfl, hl, hrep, hs, hfr, hnew, _⟩
  rw [muts_nil, List.append_nil] at hrep
  exact ⟨outs, F', rfl, hrep, hs, fun b off ho => (hnew b off ho).resolve_left hF.own, Fr.below (hfr.mono fun b off _ h => (hF.own h).elim)⟩
theorem Contract.bool {P : Program} {f : Nat} {ds : List D} {x : Bool} (h : Contract P f [] ds [.bool x]) {w : World} {args : Array Value} {F : Feet} (hd : RepDs w ds args.toList F) (hF : Still F) :
    Calls P f args w fun e w' => e = .returned (.bool x) ∧ RowKit.Below w.heap.size w w' := by
  refine (h.still hd hF).mono ?_
  rintro e w' ⟨outs, F', rfl, hr, _, _, hb⟩
  simp only [RepDs, RepD] at hr
  obtain ⟨u, us, F1, F2, rfl, _, ⟨rfl, _⟩, rfl, _⟩ := hr
  exact ⟨rfl, hb⟩
theorem Contract.int {P : Program} {f : Nat} {ds : List D} {k : IntKind} {x : Int} (h : Contract P f [] ds [.int k x]) {w : World} {args : Array Value} {F : Feet} (hd : RepDs w ds args.toList F) (hF : Still F) :
    Calls P f args w fun e w' => e = .returned (.int k x) ∧ RowKit.Below w.heap.size w w' := by
  refine (h.still hd hF).mono ?_
  rintro e w' ⟨outs, F', rfl, hr, _, _, hb⟩
  simp only [RepDs, RepD] at hr
  obtain ⟨u, us, F1, F2, rfl, _, ⟨rfl, _⟩, rfl, _⟩ := hr
  exact ⟨rfl, hb⟩
theorem Contract.one {P : Program} {f : Nat} {ds : List D} {d : D} (h : Contract P f [] ds [d]) {w : World} {args : Array Value} {F : Feet} (hd : RepDs w ds args.toList F) (hF : Still F) :
    Calls P f args w fun e w' => ∃ v F', e = .returned v ∧ RepD w' d v F' ∧ Sep F' ∧ (∀ b off, ownOf F' b off → w.heap.size ≤ b) ∧ RowKit.Below w.heap.size w w' := by
  refine (h.still hd hF).mono ?_
  rintro e w' ⟨outs, F', rfl, hr, hs, hn, hb⟩
  simp only [RepDs] at hr
  obtain ⟨u, us, F1, F2, rfl, rfl, h1, rfl, rfl⟩ := hr
  rw [List.append_nil] at hs hn
  exact ⟨u, F1, rfl, h1, hs, hn, hb⟩
/-! records -/
def dsR : List RC → List D
  | [] => []
  | .n x :: r => .int .i64 x :: dsR r
  | .is nil l :: r => .arr false nil (.ints .i64 l) :: dsR r
  | .r3 nil l :: r => .arr false nil (.r3 l) :: dsR r
def zsR : List RC → List RK
  | [] => []
  | .n x :: r => .n :: zsR r
  | .is nil l :: r => .is :: zsR r
  | .r3 nil l :: r => .r3 :: zsR r
theorem row_of_ds {w : World} : ∀ (r : List RC) {us : List Value} {F : Feet}, RepDs w (dsR r) us F → RowL w (zsR r) us r
  | [], us, F, h => by simp only [dsR, RepDs] at h; exact ⟨h.1, rfl⟩
  | .n x :: r, us, F, h => by
    simp only [dsR, RepDs, RepD] at h
    obtain ⟨u, us, F1, F2, rfl, rfl, ⟨rfl, _⟩, h2⟩ := h
    exact ⟨_, us, _, r, rfl, rfl, rfl, row_of_ds r h2⟩
  | .is nil l :: r, us, F, h => by
    simp only [dsR, RepDs, RepD] at h
    obtain ⟨u, us, F1, F2, rfl, rfl, ⟨p, rfl, ⟨q1, q2, q3, q4, q5, q6⟩, _⟩, h2⟩ := h
    exact ⟨_, us, _, r, rfl, rfl, ⟨_, _, _, rfl, q1, q3, q4, q5⟩, row_of_ds r h2⟩
  | .r3 nil l :: r, us, F, h => by
    simp only [dsR, RepDs, RepD] at h
    obtain ⟨u, us, F1, F2, rfl, rfl, ⟨p, rfl, ⟨q1, q2, q3, q4, q5, q6⟩, _⟩, h2⟩ := h
    exact ⟨_, us, _, r, rfl, rfl, ⟨_, _, _, rfl, q1, q3, q4, q5⟩, row_of_ds r h2⟩
theorem arr_of_sl {w : World} {a : Arr} {nil : Bool} {v : Value} (h : SlL w a nil v) : ∃ F, RepD w (.arr false nil a) v F ∧ Still F := by
  obtain ⟨b, n, c, rfl, h1, h2, h3, h4⟩ := h
  refine ⟨_, by simp only [RepD]; exact ⟨⟨b, n, c, a.size, []⟩, rfl, ⟨h1, rfl, h2, h3, h4, fun h => by cases h⟩, rfl⟩, fun A hA => by rw [List.mem_singleton.1 hA]⟩
theorem ds_of_row {w : World} : ∀ {z : List RK} {us : List Value} {r : List RC}, RowL w z us r → zsR r = z ∧ ∃ F, RepDs w (dsR r) us F ∧ Still F
  | [], us, r, h => by
    obtain ⟨rfl, rfl⟩ := h
    exact ⟨rfl, [], by simp [dsR, RepDs], Still.nil⟩
  | k :: z, us, r, h => by
    obtain ⟨u, us', c, r', rfl, rfl, h1, h⟩ := h
    obtain ⟨e, F, hF, hs⟩ := ds_of_row h
    cases c <;> cases k <;> first | exact h1.elim | skip
    · refine ⟨by simp only [zsR, e], F, ?_, hs⟩
      simp only [dsR, RepDs, RepD]
      exact ⟨u, us', [], F, rfl, rfl, ⟨h1, rfl⟩, hF⟩
    · obtain ⟨G, hG, sG⟩ := arr_of_sl h1
      refine ⟨by simp only [zsR, e], G ++ F, ?_, sG.append hs⟩
      simp only [dsR, RepDs]
      exact ⟨u, us', G, F, rfl, rfl, hG, hF⟩
    · obtain ⟨G, hG, sG⟩ := arr_of_sl h1
      refine ⟨by simp only [zsR, e], G ++ F, ?_, sG.append hs⟩
      simp only [dsR, RepDs]
      exact ⟨u, us', G, F, rfl, rfl, hG, hF⟩
section
variable {H : Type} {enc : TypeId × Value → H}
/-- the row of a law that was walked by hand -/
theorem returns_calls {a : Assume} {C : Checked} {os : Os} {f : FuncId} {fn : Func} {s : ChangeSpec} {conds : List PathCond} {apart fresh handsOn : Bool} {tb : TypeId}
    (own : ownKnob C.prog.godebug = none) (started : os.Started) (noInit : C.prog.inits.idxOf? f = none) (hfn : C.prog.funcs[f]? = some fn)
    (witness : ∃ (w : World) (tape : Tape) (i : Input), w.os = os ∧ (w.forCall tape i).Shaped C.prog ∧ i.vars = [] ∧ Input.okWide C.prog (w.forCall tape i) .any w.heap.size f i ∧
      s.pre6 enc C.prog fn conds apart (w.forCall tape i).memory i.args ∧ a.holds C.prog (lone (Frame.enter C.prog f i.args .normal) [] (w.forCall tape i)))
    (laid : laidOutB C.prog = true)
    (hp : (fn.params.toList.all fun t => flatOk C.prog 8 t && C.prog.readableRec t && decide (t < C.prog.types.size)) = true) (hres : fn.resultTypes = #[tb]) (htb : C.prog.underlying tb = some .bool) (hvars : s.vars = [])
    (hspec : ∀ ds : List (DataW H), ds.length = fn.params.size → s.fn H ds = { results := [.lit (.bool true)], args := ds })
    (hcalls : ∀ (w : World) (args : Array Value) (ds : List D) (F : Feet), All2 (PFits C.prog) fn.params.toList ds → RepDs w ds args.toList F → Still F → Calls C.prog f args w fun e w' => e = .returned (.bool true) ∧ RowKit.Below w.heap.size w w') :
    ReturnsInHanded a C os f .any (s.pre6 enc C.prog fn conds apart) (s.post enc C.prog fn apart fresh handsOn false) := by
  have hp' : ∀ t ∈ fn.params.toList, flatOk C.prog 8 t = true ∧ C.prog.readableRec t = true ∧ t < C.prog.types.size := by
    intro t ht
    have := List.all_eq_true.1 hp t ht
    simp only [Bool.and_eq_true, decide_eq_true_eq] at this
    exact ⟨this.1.1, this.1.2, this.2⟩
  refine returnsInHanded_of_change_sized own started noInit hfn witness ?_
  intro W base args ds gs before hval hW _ _ _
  obtain ⟨p, q, hA, hV, hbe, hfz, hnd⟩ := hW
  obtain ⟨es, F, h1, h2, h3⟩ := args_open fn.params.toList args.toList ds p (fun t ht => (hp' t ht).1) (fun j t v h1 h2 => hval j t v (by simpa using h1) (by simpa using h2)) hA
  refine (hcalls W args es F h3 h1 h2).mono fun e W' hpost => ?_
  obtain ⟨rfl, bel⟩ := hpost
  rw [hvars] at hV
  have hgs : gs = [] := by cases gs with | nil => rfl | cons _ _ => exact hV.elim
  subst hgs
  have hq : q = [] := hV
  subst hq
  have hl := trodAll_lengths _ _ _ _ hA
  have hs := hspec (ds ++ []) (by simpa using hl)
  refine ⟨_, rfl, ds, [], before, [], p, [], ⟨p, [], hA, by rw [hvars]; exact hV, hbe, hfz, hnd⟩, ?_, ?_, ?_, bel.frame _, fun h => by cases h⟩
  · rw [hs, hres]
    exact ChangeShapes.trodAll_mk1 (Go.RowKit.shut_bool htb _)
  · rw [hs, List.append_nil]
    exact trodAll_below laid bel _ _ _ _ (fun t ht => (hp' t ht).2) hA
  · rw [hs, hvars]
    rfl
end
end Go.Ev
