/- The evaluator: a law that answers true wherever it is asked: its row. The evaluator: names for the loops of a function. -/
import Derived.Test.YtcaapedadpnjoaaE24
import Derived.Carry
import Derived.ShutString
import Derived.ChangeOld
import Derived.SizedLaws
import Derived.OpenShut
import Derived.RowKit
namespace Go.Ev
set_option linter.unusedSimpArgs false
set_option linter.unusedVariables false
set_option linter.unnecessarySimpa false
open Go Go.RowKit
def PFits (P : Program) (t : TypeId) (d : D) : Prop :=
  if isAggT P t then ∃ l, d = .agg l ∧ All2 CTy.fits (cty P t) l else ∃ c, cty P t = [c] ∧ c.fits d
section
variable {H : Type} {enc : TypeId × Value → H} {P : Program} {w : World} {base : Nat} {sp : Nat → Bool} {held : Bool}
theorem arg_open {t : TypeId} {v : Value} {d : DataW H} {ps : List MemPlace} (hf : flatOk P 8 t = true) (hv : Value.okWide P w .any base t v) (ht : DataW.Trod enc P w 0 sp held t v d ps) :
    ∃ e F, RepD w e v F ∧ Still F ∧ PFits P t e := by
  obtain ⟨fuel, ht⟩ := ht
  obtain ⟨ds, F, h1, h2, h3⟩ := open_cells 8 t _ fuel _ hf ht
  have single : isAggT P t = false → v.cells = #[v] → ∃ e F, RepD w e v F ∧ Still F ∧ PFits P t e := by
    intro hagg hc
    rw [hc] at h1
    simp only [] at h1
    cases ds with
    | nil => simp [RepDs] at h1
    | cons e ds =>
      simp only [RepDs] at h1
      obtain ⟨u, us, F1, F2, he, rfl, k1, k2⟩ := h1
      cases he
      cases ds with
      | cons _ _ => simp [RepDs] at k2
      | nil =>
        simp only [RepDs] at k2
        obtain ⟨_, rfl⟩ := k2
        refine ⟨e, F1, k1, by simpa using h2, ?_⟩
        unfold PFits
        rw [hagg]
        generalize hc8 : ctyN P 8 t = cs at h3
        cases h3 with
        | cons a b => cases b with | nil => exact ⟨_, by unfold cty; exact hc8, a⟩
  have hf' := hf
  unfold flatOk at hf
  split at hf
  · rename_i k hu
    obtain ⟨n, rfl⟩ := WideShapes.okWide_int (under_some hu (by simp)) hv
    exact single (by simp [isAggT, hu, isAggD]) rfl
  · rename_i hu
    obtain ⟨n, rfl⟩ := WideShapes.okWide_bool (under_some hu (by simp)) hv
    exact single (by simp [isAggT, hu, isAggD]) rfl
  · rename_i hu
    obtain ⟨n, rfl⟩ := WideShapes.okWide_string (under_some hu (by simp)) hv
    exact single (by simp [isAggT, hu, isAggD]) rfl
  · rename_i e hu
    obtain ⟨a, l, c, rfl⟩ := WideShapes.okWide_slice (under_some hu (by simp)) hv
    exact single (by simp [isAggT, hu, isAggD]) rfl
  · rename_i fs hu
    obtain ⟨cs, rfl, _⟩ := WideShapes.okWide_struct (under_some hu (by simp)) hv
    refine ⟨.agg ds, F, by simp only [RepD]; exact ⟨cs, rfl, h1⟩, h2, ?_⟩
    unfold PFits
    rw [if_pos (by simp [isAggT, hu, isAggD])]
    exact ⟨ds, rfl, h3⟩
  · cases hf
theorem args_open : ∀ (ts : List TypeId) (vs : List Value) (xs : List (DataW H)) (ps : List MemPlace), (∀ t ∈ ts, flatOk P 8 t = true) → (∀ (j : Nat) t v, ts[j]? = some t → vs[j]? = some v → Value.okWide P w .any base t v) →
    DataW.TrodAll enc P w 0 sp held ts vs xs ps → ∃ ds F, RepDs w ds vs F ∧ Still F ∧ All2 (PFits P) ts ds
  | [], vs, xs, ps, hf, hv, h => by
    cases vs with
    | nil => exact ⟨[], [], by simp [RepDs], Still.nil, .nil⟩
    | cons _ _ => cases xs <;> exact h.elim
  | t :: ts, vs, xs, ps, hf, hv, h => by
    cases vs with
    | nil => cases xs <;> exact h.elim
    | cons v vs =>
      cases xs with
      | nil => exact h.elim
      | cons x xs =>
        obtain ⟨p, q, h1, h2, _⟩ := h
        obtain ⟨e, F1, k1, k2, k3⟩ := arg_open (hf t (by simp)) (hv 0 t v rfl rfl) h1
        obtain ⟨ds, F2, l1, l2, l3⟩ := args_open ts vs xs q (fun t ht => hf t (by simp [ht])) (fun j t v h1 h2 => hv (j + 1) t v (by simpa using h1) (by simpa using h2)) h2
        exact ⟨e :: ds, F1 ++ F2, by simp only [RepDs]; exact ⟨_, _, _, _, rfl, rfl, k1, l1⟩, k2.append l2, .cons k3 l3⟩
theorem trodAll_below (hl : laidOutB P = true) {W W' : World} (hb : Below W.heap.size W W') : ∀ (ts : List TypeId) (vs : List Value) (xs : List (DataW H)) (ps : List MemPlace), (∀ t ∈ ts, P.readableRec t = true ∧ t < P.types.size) →
    DataW.TrodAll enc P W 0 (fun _ => true) true ts vs xs ps → DataW.TrodAll enc P W' 0 (fun b => decide (b < W.heap.size)) true ts vs xs ps
  | [], vs, xs, ps, hf, h => by
    cases vs with
    | nil => cases xs <;> exact h
    | cons _ _ => cases xs <;> exact h.elim
  | t :: ts, vs, xs, ps, hf, h => by
    cases vs with
    | nil => cases xs <;> exact h.elim
    | cons v vs =>
      cases xs with
      | nil => exact h.elim
      | cons x xs =>
        obtain ⟨p, q, h1, h2, h3⟩ := h
        refine ⟨p, q, Below.trod hl (hf t (by simp)).1 (hf t (by simp)).2 h1 hb ?_, trodAll_below hl hb ts vs xs q (fun t ht => hf t (by simp [ht])) h2, h3⟩
        obtain ⟨n, h1⟩ := h1
        exact DataW.trod_lt n _ _ _ h1
theorem trodAll_lengths : ∀ (ts : List TypeId) (vs : List Value) (xs : List (DataW H)) (ps : List MemPlace), DataW.TrodAll enc P w base sp held ts vs xs ps → xs.length = ts.length
  | [], vs, xs, ps, h => by
    cases vs with
    | nil => cases xs with
      | nil => rfl
      | cons _ _ => exact h.elim
    | cons _ _ => cases xs <;> exact h.elim
  | t :: ts, vs, xs, ps, h => by
    cases vs with
    | nil => cases xs <;> exact h.elim
    | cons v vs =>
      cases xs with
      | nil => exact h.elim
      | cons x xs =>
        obtain ⟨p, q, _, h2, _⟩ := h
        simp [trodAll_lengths ts vs xs q h2]
/-- THE ROW: the law answers true on all data of its arguments' types -/
theorem returns_true {a : Assume} {C : Checked} {os : Os} {f : FuncId} {fn : Func} {s : ChangeSpec} {conds : List PathCond} {apart fresh handsOn : Bool} {A : Ann} {tb : TypeId}
    (own : ownKnob C.prog.godebug = none) (started : os.Started) (noInit : C.prog.inits.idxOf? f = none) (hfn : C.prog.funcs[f]? = some fn)
    (witness : ∃ (w : World) (tape : Tape) (i : Input), w.os = os ∧ (w.forCall tape i).Shaped C.prog ∧ i.vars = [] ∧ Input.okWide C.prog (w.forCall tape i) .any w.heap.size f i ∧
      s.pre6 enc C.prog fn conds apart (w.forCall tape i).memory i.args ∧ a.holds C.prog (lone (Frame.enter C.prog f i.args .normal) [] (w.forCall tape i)))
    (G : Good C.prog) (hext : ∀ f g, A.ext f = some g → ∀ ds rs, g ds = some rs → Contract C.prog f (A.mode f) ds rs) (hmode : A.mode f = []) (laid : laidOutB C.prog = true)
    (hp : (fn.params.toList.all fun t => flatOk C.prog 8 t && C.prog.readableRec t && decide (t < C.prog.types.size)) = true) (hres : fn.resultTypes = #[tb]) (htb : C.prog.underlying tb = some .bool) (hvars : s.vars = [])
    (hspec : ∀ ds : List (DataW H), ds.length = fn.params.size → s.fn H ds = { results := [.lit (.bool true)], args := ds })
    (hev : ∀ ds : List D, All2 (PFits C.prog) fn.params.toList ds → ∃ k, ev C.prog A k f ds = some [.bool true]) :
    ReturnsInHanded a C os f .any (s.pre6 enc C.prog fn conds apart) (s.post enc C.prog fn apart fresh handsOn false) := by
  have hp' : ∀ t ∈ fn.params.toList, flatOk C.prog 8 t = true ∧ C.prog.readableRec t = true ∧ t < C.prog.types.size := by
    intro t ht
    have := List.all_eq_true.1 hp t ht
    simp only [Bool.and_eq_true, decide_eq_true_eq] at this
    exact ⟨this.1.1, this.1.2, this.2⟩
  refine returnsInHanded_of_change_sized own started noInit hfn witness ?_
  intro W base args ds gs before hval hW _ _ _
  obtain ⟨p, q, hA, hV, hbe, hfz, hnd⟩ := hW
  obtain ⟨es, F, h1, h2, h3⟩ := args_open fn.params.toList args.toList ds p (fun t ht => (hp' t ht).1) (fun j t v h1 h2 => hval j t v (by simpa using h1) (by simpa using h2)) hA
  obtain ⟨k, hk⟩ := hev es h3
  obtain ⟨fn', hfn', _, hcalls⟩ := ev_contract G hext hk
  rw [hfn] at hfn'; cases hfn'
  refine (hcalls W args F h1 h2.sep).mono fun e W' hpost => ?_
  obtain ⟨outs, F', rfl, hlen, hr, _, hfr, _, _, _, _⟩ := hpost
  have hm : ∀ (vs : List Value), muts ([] : List Bool) vs = [] := by
    intro vs
    induction vs with
    | nil => rfl
    | cons v vs ih => simp [muts, ih]
  rw [hmode, hm, List.append_nil] at hr
  simp only [RepDs, RepD] at hr
  obtain ⟨u, us, F1, F2, rfl, _, ⟨rfl, _⟩, rfl, _⟩ := hr
  have bel : Below W.heap.size W W' := Fr.below (hfr.mono fun b off _ h => (h2.own h).elim)
  rw [hvars] at hV
  have hgs : gs = [] := by cases gs with | nil => rfl | cons _ _ => exact hV.elim
  subst hgs
  have hq : q = [] := hV
  subst hq
  have hl := trodAll_lengths _ _ _ _ hA
  have hs := hspec (ds ++ []) (by simpa using hl)
  refine ⟨_, rfl, ds, [], before, [], p, [], ⟨p, [], hA, by rw [hvars]; exact hV, hbe, hfz, hnd⟩, ?_, ?_, ?_, bel.frame _, fun h => by cases h⟩
  · rw [hs, hres]
    exact ChangeShapes.trodAll_mk1 (Go.RowKit.shut_bool htb _)
  · rw [hs, List.append_nil]
    exact trodAll_below laid bel _ _ _ _ (fun t ht => (hp' t ht).2) hA
  · rw [hs, hvars]
    rfl
end
#print axioms returns_true
end Go.Ev
namespace Go.Ev
section
variable (P : Program) (A : Ann) (cal : Nat → List D → Option (List D)) (inl : Inl) (f lf : Nat)
def fuelOf (fu : List (Nat × Nat)) (r : Nat) : Nat := (find fu r).getD 0
def orE {α : Type} (a b : Option α) : Option α := match a with
  | some x => some x
  | none => b
/-- the loop whose first region is tgt, and what stands behind it -/
def findK (fu : List (Nat × Nat)) (tgt : Nat) : Code → Kont → Option (Code × Kont)
  | .seq a b, K => orE (findK fu tgt a fun e s => match e with
    | .normal => canonAt A f b s fun s => evC P A cal inl f lf b s K
    | .exit id => K (.exit id) s
    | .ret => K .ret s) (findK fu tgt b K)
  | .cond _ a b, K => orE (findK fu tgt a K) (findK fu tgt b K)
  | .block id c, K => findK fu tgt c fun e s => match e with
    | .exit id' => cond (Nat.beq id' id) (K .normal s) (K (.exit id') s)
    | .normal => K .normal s
    | .ret => K .ret s
  | .loop c, K => match firstRegion c with
    | some r => cond (Nat.beq r tgt) (some (c, K)) (findK fu tgt c fun e s => match e with
      | .normal => canonAt A f c s fun s => evLoop (evC P A cal inl f lf c) (canonAt A f c) (fuelOf fu r) s K
      | .exit id => K (.exit id) s
      | .ret => K .ret s)
    | none => none
  | _, _ => none
end
/-- what stands behind a call of g that is run in place: by itself, or within another function that is run in place ('deep') -/
def findOps (P : Program) (A : Ann) (cal : Nat → List D → Option (List D)) (inl : Inl) (g d nt : Nat) (deep : Nat → (AV → St → R) → Option (Nat × Nat × (AV → St → R))) (draw : Bool) (ops : List Oper) : List Oper → (St → List (List Nat × List Nat) → R) → Option (Nat × Nat × (AV → St → R))
  | [], _ => none
  | o :: rest, K => match (match o.op with
      | .call c => (match c.callee with | .value (.func h) => some h | _ => none)
      | _ => none) with
    | some h => cond (Nat.beq h g) (some (d, nt, fun v s => evOps P A cal inl draw ops rest (put o.dst v s) [([], [])] K))
        (cond (A.inl h && !draw) (orE (deep h fun v s => evOps P A cal inl draw ops rest (put o.dst v s) [([], [])] K) (findOps P A cal inl g d nt deep draw ops rest K)) (findOps P A cal inl g d nt deep draw ops rest K))
    | none => findOps P A cal inl g d nt deep draw ops rest K
section
variable (P : Program) (A : Ann) (cal : Nat → List D → Option (List D)) (inl : Inl) (f lf : Nat)
def findCall (fu : List (Nat × Nat)) (g d nt : Nat) (deep : Nat → (AV → St → R) → Option (Nat × Nat × (AV → St → R))) : Code → Kont → Option (Nat × Nat × (AV → St → R))
  | .region _ ops draw, K => findOps P A cal inl g d nt deep draw ops.toList ops.toList fun s tr => cond draw (cond (bern ops.toList tr) (K .normal s) none) (K .normal s)
  | .seq a b, K => orE (findCall fu g d nt deep a fun e s => match e with
    | .normal => canonAt A f b s fun s => evC P A cal inl f lf b s K
    | .exit id => K (.exit id) s
    | .ret => K .ret s) (findCall fu g d nt deep b K)
  | .cond _ a b, K => orE (findCall fu g d nt deep a K) (findCall fu g d nt deep b K)
  | .block id c, K => findCall fu g d nt deep c fun e s => match e with
    | .exit id' => cond (Nat.beq id' id) (K .normal s) (K (.exit id') s)
    | .normal => K .normal s
    | .ret => K .ret s
  | _, _ => none
end
def findCallD (P : Program) (A : Ann) (cal : Nat → List D → Option (List D)) (lf : Nat) (fu : List (Nat × Nat)) (g : Nat) : Nat → Inl → Nat → Nat → Code → Kont → Option (Nat × Nat × (AV → St → R))
  | 0, _, _, _, _, _ => none
  | d + 1, inl, f, nt, c, K => findCall P A cal inl f lf fu g d nt (fun h Kc => match P.funcs[h]? with
    | none => none
    | some hn => match hn.body with
      | none => none
      | some hc => findCallD P A cal lf fu g d (inlD P A cal lf d) h hn.ntmps hc fun e s' => match e with
        | .exit _ => none
        | _ => runP cal (loadAll P s'.fr hn.results.toList fun vs => .ret (retV vs)) s'.h [] [] fun v hp _ _ => Kc v ⟨s'.pn.take nt, s'.pn.drop nt, hp⟩) c K
/-- function f at the head of its loop tgt, with n rounds left; tgt from 100000 on: loop tgt % 100000 of function tgt / 100000, which f runs in place -/
def loopAt (P : Program) (A : Ann) (k f : Nat) (md : List D) (fu : List (Nat × Nat)) (tgt n : Nat) (s : St) : R :=
  match P.funcs[f]? with
  | none => none
  | some fn => match fn.body with
    | none => none
    | some c => cond (Nat.blt tgt 100000)
      (match findK P A (level P A k).cal (level P A k).inl f k fu tgt c (fun e s => match e with
        | .exit _ => none
        | .normal => leave P (level P A k).cal fn md s
        | .ret => leave P (level P A k).cal fn md s) with
      | some (c, K) => evLoop (evC P A (level P A k).cal (level P A k).inl f k c) (canonAt A f c) n s K
      | none => none)
      (match findCallD P A (level P A k).cal k fu (tgt / 100000) 4 (level P A k).inl f fn.ntmps c (fun e s => match e with
        | .exit _ => none
        | .normal => leave P (level P A k).cal fn md s
        | .ret => leave P (level P A k).cal fn md s) with
      | none => none
      | some (d, nt, Kc) => match P.funcs[tgt / 100000]? with
        | none => none
        | some gn => match gn.body with
          | none => none
          | some gc => match findK P A (level P A k).cal (inlD P A (level P A k).cal k d) (tgt / 100000) k fu (tgt % 100000) gc (fun e s' => match e with
              | .exit _ => none
              | _ => runP (level P A k).cal (loadAll P s'.fr gn.results.toList fun vs => .ret (retV vs)) s'.h [] [] fun v h _ _ => Kc v ⟨s'.pn.take nt, s'.pn.drop nt, h⟩) with
            | some (c, K) => evLoop (evC P A (level P A k).cal (inlD P A (level P A k).cal k d) (tgt / 100000) k c) (canonAt A (tgt / 100000) c) n s K
            | none => none)
/-- a frame of n slots, those named filled -/
def fill (n : Nat) (l : List (Nat × AV)) : List AV := (List.range n).map fun i => ((l.find? (fun x => Nat.beq x.1 i)).map (·.2)).getD .un
def lookK (l : List (Nat × Nat × List Nat)) (f r : Nat) : Option (List Nat) := (l.find? fun x => Nat.beq x.1 f && Nat.beq x.2.1 r).map (·.2.2)
def lookM (l : List (Nat × List Bool)) (f : Nat) : List Bool := ((l.find? fun x => Nat.beq x.1 f).map (·.2)).getD []
def lookI (l : List Nat) (f : Nat) : Bool := l.any fun x => Nat.beq x f
end Go.Ev
