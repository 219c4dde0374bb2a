/- The evaluator: one operation and a row of operations in the order they stand in. -/
import Derived.Test.YtfgccfajhedgdaaE15
import Derived.Tactics
namespace Go.Ev
set_option linter.unusedSimpArgs false
set_option linter.unusedVariables false
set_option linter.unnecessarySimpa false
open Go Go.RowKit
structure Good (P : Program) : Prop where
  names : ∀ (f : Nat) fn, P.funcs[f]? = some fn → (fn.name == "runtime.NumGoroutine") = false
  mixed : P.follows .mixedOrders = true
def CalOk (P : Program) (A : Ann) (cal : Nat → List D → Option (List D)) : Prop := ∀ f ds rs, cal f ds = some rs → Contract P f (A.mode f) ds rs
structure StR (w0 : World) (M : Nat → Nat → Prop) (ρ : Env) (s : St) (gv : List Value) (a : Act) (w : World) : Prop where
  fr : RepVs ρ s.fr a.tmps.toList
  pn : RepVs ρ s.pn gv
  inv : Inv w0 M ρ (ent s.h) w
  top : ∀ id, s.h.length ≤ id → ρ id = none
  calm : a.defers = []
theorem StR.put {w0 : World} {M : Nat → Nat → Prop} {ρ : Env} {s : St} {gv : List Value} {a : Act} {w : World} (h : StR w0 M ρ s gv a w) (dst : Option Tmp) {v : AV} {vv : Value} (hv : RepV ρ v vv) : StR w0 M ρ (put dst v s) gv (a.put dst vv) w := by
  cases dst with
  | none => exact h
  | some d => exact ⟨by simpa [Go.Ev.put, Act.put] using h.fr.set d hv, h.pn, h.inv, h.top, h.calm⟩
theorem StR.skip {w0 : World} {M : Nat → Nat → Prop} {ρ : Env} {s : St} {gv : List Value} {a : Act} {w : World} (h : StR w0 M ρ s gv a w) (dst : Option Tmp) : StR w0 M ρ (Go.Ev.put dst .un s) gv (a.put dst undef) w :=
  h.put dst (by simp [RepV])
theorem StR.skip' {w0 : World} {M : Nat → Nat → Prop} {ρ : Env} {s : St} {gv : List Value} {a : Act} {w : World} (h : StR w0 M ρ s gv a w) (dst : Option Tmp) : StR w0 M ρ (Go.Ev.put dst (.tup []) s) gv (a.put dst undef) w :=
  h.put dst (by simp only [RepV]; exact ⟨#[], rfl, by simp [RepVs]⟩)
theorem run_enter {P : Program} (G : Good P) {o : Oper} {a : Act} {w : World} {c : Call} {f : Operand} {g : Nat} {caps : Array Value} {fn : Func} (ho : o.op = .call c) (hf : c.callee = .value f) (hv : a.eval f = .func (.func g) #[] caps)
    (hfn : P.funcs[g]? = some fn) (hb : fn.body.isSome = true) : (execOp a.eval o).run P w = .ok (.enter g (c.args.map a.eval ++ caps)) w := by
  have h1 : fn.name ≠ "runtime.NumGoroutine" := by simpa using G.names g fn hfn
  obtain ⟨b, hb⟩ := Option.isSome_iff_exists.1 hb
  simp [execOp, ho, resolve, hf, hv, Deferred.ofValue, invoke, callFunc, hfn, h1, hb]
section
variable {P : Program} {A : Ann} {cal : Nat → List D → Option (List D)} {inl : Inl} {w0 : World} {M : Nat → Nat → Prop}
theorem sit_wp (G : Good P) (hcal : CalOk P A cal) {o : Oper} {fr : List AV} {a : Act} {l : List Ac} {v : AV} {ρ : Env} {g : Hp} {w : World} {next : Act → World → Prop} {Q : Exit → Act → World → Prop}
    (S : Sit cal (stepP P A o fr) l v w0 M ρ g w) (h : RepVs ρ fr a.tmps.toList) (hn : ∀ vv w', Fin w0 M l g ρ w' (fun ρ' => RepV ρ' v vv) → next (a.put o.dst vv) w') : o.wp P a w next Q := by
  by_cases hc : ∃ c f, o.op = .call c ∧ c.callee = .value f
  · obtain ⟨c, f, ho, hf⟩ := hc
    unfold stepP at S
    rw [ho] at S
    simp only [hf] at S
    have hfv := opd_rep h f
    split at S
    · rename_i g' caps e
      rw [e] at hfv
      simp only [RepV] at hfv
      obtain ⟨vs, hv, hr⟩ := hfv
      obtain ⟨fn, hfn, hb, hcalls⟩ := callP_ok (args := c.args.map a.eval ++ vs) (fun ds rs => hcal g' ds rs) S (by simpa using (operands_rep h c.args).append hr)
      unfold Oper.wp
      rw [run_enter G ho hf hv hfn hb, Oper.upon_enter]
      refine hcalls.mono fun e w' he => ?_
      obtain ⟨vv, rfl, F⟩ := he
      exact hn vv w' F
    · exact S.fail
  · obtain ⟨n, vv, w', h1, h2, h3⟩ := step_ok (fun c f h1 h2 => hc ⟨c, f, h1, h2⟩) h S
    unfold Oper.wp
    rw [h1]
    rcases h2 with rfl | ⟨rfl, rfl⟩
    · exact hn _ _ h3
    · exact hn _ _ h3
theorem plain_ok (G : Good P) (hcal : CalOk P A cal) {o : Oper} {s : St} {K : AV → St → List Nat × List Nat → R} {out : List D} {ρ : Env} {gv : List Value} {a : Act} {w : World} {next : Act → World → Prop} {Q : Exit → Act → World → Prop}
    (h : evPlain P A cal o s K = some out) (R : StR w0 M ρ s gv a w)
    (hn : ∀ v s' t ρ' vv w', K v s' t = some out → StR w0 M ρ' s' gv a w' → RepV ρ' v vv → next (a.put o.dst vv) w') : o.wp P a w next Q := by
  unfold evPlain at h
  obtain ⟨l, v, h', R', W', h1, h2, h3, h4, h5, h6, h7, h8, h9⟩ := runP_run _ h
  have S : Sit cal (stepP P A o s.fr) l v w0 M ρ (ent s.h) w := ⟨h1, h2, fun id hid => R.top id (h5 id hid).1, h9, R.inv⟩
  refine sit_wp G hcal S R.fr fun vv w' F => ?_
  obtain ⟨ρ', k1, k2, k3, k4⟩ := F
  refine hn v { s with h := h' } (R', W') ρ' vv w' h4 ⟨R.fr.mono k2 _ _, R.pn.mono k2 _ _, by rw [h3]; exact k1, fun id hid => ?_, R.calm⟩ k4
  have hid' : h'.length ≤ id := hid
  rw [k3 id fun hm => by have := (h5 id hm).2; omega]
  exact R.top id (by omega)
def InlOk (P : Program) (inl : Inl) : Prop := ∀ (w0 : World) (M : Nat → Nat → Prop) (f : Nat) (vs : List AV) (s : St) (K : AV → St → R) (out : List D) (ρ : Env) (gv : List Value) (a : Act) (w : World) (args : Array Value),
  inl f vs s K = some out → StR w0 M ρ s gv a w → RepVs ρ vs args.toList →
    ∃ fn, P.funcs[f]? = some fn ∧ fn.body.isSome = true ∧ Calls P f args w fun e w' => ∃ vv v s' ρ', e = .returned vv ∧ K v s' = some out ∧ StR w0 M ρ' s' gv a w' ∧ RepV ρ' v vv
theorem op_ok (G : Good P) (hcal : CalOk P A cal) (hinl : InlOk P inl) {draw : Bool} {o : Oper} {s : St} {K : AV → St → List Nat × List Nat → R} {out : List D} {ρ : Env} {gv : List Value} {a : Act} {w : World} {next : Act → World → Prop} {Q : Exit → Act → World → Prop}
    (h : evOp P A cal inl draw o s K = some out) (R : StR w0 M ρ s gv a w)
    (hn : ∀ v s' t ρ' vv w', K v s' t = some out → StR w0 M ρ' s' gv a w' → RepV ρ' v vv → next (a.put o.dst vv) w') : o.wp P a w next Q := by
  unfold evOp at h
  split at h
  · rename_i c ho
    split at h
    · rename_i g hf
      cases hb : (A.inl g && !draw) with
      | false => rw [hb] at h; exact plain_ok G hcal h R hn
      | true =>
        rw [hb] at h
        simp only [cond_true] at h
        obtain ⟨fn, hfn, hbody, hcalls⟩ := hinl w0 M g _ s _ out ρ gv a w (c.args.map a.eval) h R (operands_rep R.fr c.args)
        unfold Oper.wp
        have := run_enter G (a := a) (w := w) (caps := #[]) ho hf rfl hfn hbody
        rw [Array.append_empty] at this
        rw [this, Oper.upon_enter]
        refine hcalls.mono fun e w' he => ?_
        obtain ⟨vv, v, s', ρ', rfl, k1, k2, k3⟩ := he
        exact hn v s' _ ρ' vv w' k1 k2 k3
    · exact plain_ok G hcal h R hn
  · exact plain_ok G hcal h R hn
theorem yielded_of {ops : Array Oper} {ρ : Env} {fr : List AV} {a : Act} {g t : Nat} {b : Bool} (h : RepVs ρ fr a.tmps.toList) (hg : (ops.toList[g]?).bind (·.dst) = some t) (hb : fr.getD t .un = .bool b) : yielded ops a.tmps g = some b := by
  have hr := h.get t
  rw [hb] at hr
  simp only [RepV] at hr
  have hlt : t < fr.length := by
    rcases Nat.lt_or_ge t fr.length with h' | h'
    · exact h'
    · simp [h'] at hb
  have hlt' : t < a.tmps.size := by have := h.length; simp at this; omega
  unfold yielded
  rw [Array.getElem?_toList] at hg
  rw [hg]
  simp only [Option.bind_some]
  have : a.tmps[t]? = some (.bool b) := by
    rw [Array.getElem?_eq_getElem hlt']
    simp [hlt'] at hr
    rw [hr]
  rw [this]
theorem yielded_none {ops : Array Oper} {ρ : Env} {fr : List AV} {a : Act} {g t : Nat} (h : RepVs ρ fr a.tmps.toList) (hg : (ops.toList[g]?).bind (·.dst) = some t) (hb : fr.getD t .un = .tup []) : yielded ops a.tmps g = none := by
  have hr := h.get t
  rw [hb] at hr
  simp only [RepV] at hr
  obtain ⟨vs, hv, hvs⟩ := hr
  unfold yielded
  rw [Array.getElem?_toList] at hg
  rw [hg]
  simp only [Option.bind_some]
  cases ha : a.tmps[t]? with
  | none => rfl
  | some x =>
    have : a.tmps.toList.getD t undef = x := by simp [ha]
    rw [this] at hv
    subst hv
    rfl
theorem at_same {s : St} {t : Nat} {b : Bool} (h : s.fr.getD t .un = .bool b) : s.at t (.bool b) = s := by
  have hlt : t < s.fr.length := by
    rcases Nat.lt_or_ge t s.fr.length with h' | h'
    · exact h'
    · simp [h'] at h
  have : s.fr.set t (.bool b) = s.fr := by
    apply List.ext_getElem?
    intro i
    rw [List.getElem?_set]
    split
    · rename_i e
      subst e
      simp only [List.getD_eq_getElem?_getD, List.getElem?_eq_getElem hlt, Option.getD_some] at h
      simp [hlt, h]
    · rfl
  cases s
  simp only [St.at] at this ⊢
  rw [this]
theorem ops_ok (G : Good P) (hcal : CalOk P A cal) (hinl : InlOk P inl) {ops : Array Oper} {K : St → List (List Nat × List Nat) → R} {out : List D} {gv : List Value} {Q : Exit → Act → World → Prop}
    (hK : ∀ s' tr' ρ' a' w', K s' tr' = some out → StR w0 M ρ' s' gv a' w' → Q .normal a' w') : ∀ (rest : List Oper) (s : St) (tr : List (List Nat × List Nat)) (ρ : Env) (a : Act) (w : World),
    evOps P A cal inl false ops.toList rest s tr K = some out → StR w0 M ρ s gv a w → wpList P ops Q rest a w
  | [], s, tr, ρ, a, w, h, R => by
    simp only [evOps] at h
    exact hK s tr ρ a w h R
  | o :: rest, s, tr, ρ, a, w, h, R => by
    have doing : ∀ (s : St) (K' : AV → St → List Nat × List Nat → Go.Ev.R), evOp P A cal inl false o s K' = some out → StR w0 M ρ s gv a w → (∀ v s' t, K' v s' t = evOps P A cal inl false ops.toList rest (put o.dst v s') (tr ++ [t]) K) → o.wp P a w (wpList P ops Q rest) Q := by
      intro s K' h R he
      refine op_ok G hcal hinl h R fun v s' t ρ' vv w' k1 k2 k3 => ?_
      rw [he] at k1
      exact ops_ok G hcal hinl hK rest _ _ ρ' _ w' k1 (k2.put o.dst k3)
    unfold wpList
    simp only [evOps] at h
    split at h
    · rename_i hg
      rw [if_pos (by simp [Region.wanted, hg])]
      exact .inl (doing s _ h R fun _ _ _ => rfl)
    · rename_i g want hg
      split at h
      · cases h
      · rename_i t ht
        split at h
        · rename_i b hb
          have hy := yielded_of R.fr ht hb
          have hw : Region.wanted o (yielded ops a.tmps) = (b == want) := by
            simp only [Region.wanted, hg, hy]
            cases b <;> cases want <;> rfl
          cases b with
          | true =>
            rw [at_same hb] at h
            simp only [cond_true] at h
            cases want with
            | true => simp only [cond_true] at h; rw [hw, if_pos (by rfl)]; exact .inl (doing s _ h R fun _ _ _ => rfl)
            | false => simp only [cond_false] at h; rw [hw, if_neg (by simp)]; exact ops_ok G hcal hinl hK rest _ _ ρ _ w h (R.skip' o.dst)
          | false =>
            rw [at_same hb] at h
            simp only [cond_false] at h
            cases want with
            | true => simp only [cond_true] at h; rw [hw, if_neg (by simp)]; exact ops_ok G hcal hinl hK rest _ _ ρ _ w h (R.skip' o.dst)
            | false => simp only [cond_false] at h; rw [hw, if_pos (by rfl)]; exact .inl (doing s _ h R fun _ _ _ => rfl)
        · rename_i hb
          have hy : yielded ops a.tmps g = none := yielded_none R.fr ht hb
          have hw : Region.wanted o (yielded ops a.tmps) = false := by
            simp only [Region.wanted, hg, hy]
            cases want <;> rfl
          rw [hw, if_neg (by simp)]
          exact ops_ok G hcal hinl hK rest _ _ ρ _ w h (R.skip' o.dst)
        · cases h
end
end Go.Ev
