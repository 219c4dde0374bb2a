/- The evaluator: a drawn region. The evaluator: a drawn region, its proof. The evaluator: code; results; what a turned argument keeps. -/
import Derived.Test.YtcaapedadpnjoaaE18
namespace Go.Ev
set_option linter.unusedSimpArgs false
set_option linter.unusedVariables false
set_option linter.unnecessarySimpa false
open Go Go.RowKit
structure Stp where
  l : List Ac
  v : AV
  ran : Bool
def Meets (ops : List Oper) (o : Oper) (fr : List AV) (b : Bool) : Prop := match o.guard with
  | none => b = true
  | some (g, want) => (∃ t c, (ops[g]?).bind (·.dst) = some t ∧ fr.getD t .un = .bool c ∧ b = (c == want)) ∨ (∃ t, (ops[g]?).bind (·.dst) = some t ∧ fr.getD t .un = .tup [] ∧ b = false)
structure StepAt (P : Program) (A : Ann) (cal : Nat → List D → Option (List D)) (ops : List Oper) (o : Oper) (st : Stp) (fr : List AV) (h : List Ent) (fr' : List AV) (h' : List Ent) : Prop where
  meets : Meets ops o fr st.ran
  did : st.ran = true → Run cal (stepP P A o fr) st.l st.v
  idle : st.ran = false → st.l = [] ∧ st.v = .tup []
  cons : Cons st.l (ent h)
  heap : ent h' = appl st.l (ent h)
  news : ∀ id ∈ news st.l, h.length ≤ id ∧ id < h'.length
  grow : h.length ≤ h'.length
  nodup : (Go.Ev.news st.l).Nodup
  fr : fr' = match o.dst with | some d => fr.set d st.v | none => fr
theorem put_fr (dst : Option Tmp) (v : AV) (s : St) : (put dst v s).fr = match dst with | some d => s.fr.set d v | none => s.fr := by cases dst <;> rfl
theorem put_h (dst : Option Tmp) (v : AV) (s : St) : (put dst v s).h = s.h := by cases dst <;> rfl
theorem put_pn (dst : Option Tmp) (v : AV) (s : St) : (put dst v s).pn = s.pn := by cases dst <;> rfl
def Walk (P : Program) (A : Ann) (cal : Nat → List D → Option (List D)) (ops rest : List Oper) (fr : Nat → List AV) (h : Nat → List Ent) (sts : List Stp) (trs : List (List Nat × List Nat)) : Prop :=
  sts.length = rest.length ∧ trs.length = rest.length ∧ ∀ k o st t, rest[k]? = some o → sts[k]? = some st → trs[k]? = some t →
    StepAt P A cal ops o st (fr k) (h k) (fr (k + 1)) (h (k + 1)) ∧ (∀ id, id ∈ t.1 ↔ id ∈ rds st.l) ∧ (∀ id, id ∈ t.2 ↔ id ∈ wrs st.l)
theorem walk_cons {P : Program} {A : Ann} {cal : Nat → List D → Option (List D)} {ops rest : List Oper} {o : Oper} {st : Stp} {t : List Nat × List Nat} {fr0 fr1 : List AV} {h0 h1 : List Ent} {fr : Nat → List AV} {h : Nat → List Ent} {sts : List Stp} {trs : List (List Nat × List Nat)}
    (S : StepAt P A cal ops o st fr0 h0 fr1 h1) (hr : ∀ id, id ∈ t.1 ↔ id ∈ rds st.l) (hw : ∀ id, id ∈ t.2 ↔ id ∈ wrs st.l) (e1 : fr 0 = fr1) (e2 : h 0 = h1) (W : Walk P A cal ops rest fr h sts trs) :
    Walk P A cal ops (o :: rest) (fun k => match k with | 0 => fr0 | k + 1 => fr k) (fun k => match k with | 0 => h0 | k + 1 => h k) (st :: sts) (t :: trs) := by
  obtain ⟨w1, w2, w3⟩ := W
  refine ⟨by simp [w1], by simp [w2], fun k o' st' t' a b c => ?_⟩
  cases k with
  | zero =>
    simp only [List.getElem?_cons_zero, Option.some.injEq] at a b c
    subst a b c e1 e2
    exact ⟨S, hr, hw⟩
  | succ k => exact w3 k o' st' t' (by simpa using a) (by simpa using b) (by simpa using c)
theorem walk {P : Program} {A : Ann} {cal : Nat → List D → Option (List D)} {inl : Inl} {ops : List Oper} {K : St → List (List Nat × List Nat) → R} {out : List D} : ∀ (rest : List Oper) (s : St) (tr : List (List Nat × List Nat)), evOps P A cal inl true ops rest s tr K = some out →
    ∃ (fr : Nat → List AV) (h : Nat → List Ent) (sts : List Stp) (trs : List (List Nat × List Nat)), fr 0 = s.fr ∧ h 0 = s.h ∧ K ⟨fr rest.length, s.pn, h rest.length⟩ (tr ++ trs) = some out ∧ Walk P A cal ops rest fr h sts trs
  | [], s, tr, e => by
    simp only [evOps] at e
    exact ⟨fun _ => s.fr, fun _ => s.h, [], [], rfl, rfl, by simpa using e, rfl, rfl, fun k o st t a => by simp at a⟩
  | o :: rest, s, tr, e => by
    have doing : ∀ (s0 : St), s0 = s → Meets ops o s.fr true → evOp P A cal inl true o s0 (fun v s t => evOps P A cal inl true ops rest (put o.dst v s) (tr ++ [t]) K) = some out →
        ∃ (fr : Nat → List AV) (h : Nat → List Ent) (sts : List Stp) (trs : List (List Nat × List Nat)), fr 0 = s.fr ∧ h 0 = s.h ∧ K ⟨fr (o :: rest).length, s.pn, h (o :: rest).length⟩ (tr ++ trs) = some out ∧ Walk P A cal ops (o :: rest) fr h sts trs := by
      intro s0 hs0 hm e1
      clear e
      subst hs0
      have e' : evPlain P A cal o s0 (fun v s t => evOps P A cal inl true ops rest (put o.dst v s) (tr ++ [t]) K) = some out := by
        unfold evOp at e1
        split at e1
        · split at e1
          · simpa using e1
          · exact e1
        · exact e1
      unfold evPlain at e'
      obtain ⟨l, v, h', R', W', k1, k2, k3, k4, k5, k6, k7, k8, k9⟩ := runP_run _ e'
      obtain ⟨fr, h, sts, trs, f1, f2, f3, f4⟩ := walk rest _ _ k4
      rw [put_fr] at f1
      rw [put_h] at f2
      rw [put_pn] at f3
      refine ⟨_, _, _, _, rfl, rfl, ?_, walk_cons (st := ⟨l, v, true⟩) (t := (R', W')) ⟨hm, fun _ => k1, (fun h => nomatch h), k2, k3, k5, k6, k9, rfl⟩ (by simpa using k7) (by simpa using k8) f1 f2 f4⟩
      simpa using f3
    have skip : ∀ (s0 : St), s0 = s → Meets ops o s.fr false → evOps P A cal inl true ops rest (put o.dst (.tup []) s0) (tr ++ [([], [])]) K = some out →
        ∃ (fr : Nat → List AV) (h : Nat → List Ent) (sts : List Stp) (trs : List (List Nat × List Nat)), fr 0 = s.fr ∧ h 0 = s.h ∧ K ⟨fr (o :: rest).length, s.pn, h (o :: rest).length⟩ (tr ++ trs) = some out ∧ Walk P A cal ops (o :: rest) fr h sts trs := by
      intro s0 hs0 hm e1
      clear e
      subst hs0
      obtain ⟨fr, h, sts, trs, f1, f2, f3, f4⟩ := walk rest _ _ e1
      rw [put_fr] at f1
      rw [put_h] at f2
      rw [put_pn] at f3
      refine ⟨_, _, _, _, rfl, rfl, ?_, walk_cons (st := ⟨[], .tup [], false⟩) (t := ([], [])) (fr0 := s0.fr) (h0 := s0.h) (h1 := s0.h) ⟨hm, (fun h => nomatch h), fun _ => ⟨rfl, rfl⟩, trivial, rfl, by simp [news], Nat.le_refl _, by simp [news], rfl⟩ (by simp [rds]) (by simp [wrs]) f1 f2 f4⟩
      simpa using f3
    simp only [evOps] at e
    split at e
    · rename_i hg
      exact doing s rfl (by simp [Meets, hg]) e
    · rename_i g want hg
      split at e
      · cases e
      · rename_i t ht
        split at e
        · rename_i b hb
          have hm : ∀ c, c = (b == want) → Meets ops o s.fr c := fun c hc => by simp only [Meets, hg]; exact .inl ⟨t, b, ht, hb, hc⟩
          cases b with
          | true =>
            rw [at_same hb] at e
            simp only [cond_true] at e
            cases want with
            | true => simp only [cond_true] at e; exact doing s rfl (hm _ rfl) e
            | false => simp only [cond_false] at e; exact skip s rfl (hm _ rfl) e
          | false =>
            rw [at_same hb] at e
            simp only [cond_false] at e
            cases want with
            | true => simp only [cond_true] at e; exact skip s rfl (hm _ rfl) e
            | false => simp only [cond_false] at e; exact doing s rfl (hm _ rfl) e
        · rename_i hb
          exact skip s rfl (by simp only [Meets, hg]; exact .inr ⟨t, ht, hb, trivial⟩) e
        · cases e

/-! ancestors -/
theorem hasB_eq (n i : Nat) : hasB n i = n.testBit i := by
  rw [Nat.testBit_eq_decide_div_mod_eq]
  show Nat.beq ((n >>> i) &&& 1) 1 = _
  rw [Nat.and_one_is_mod, Nat.shiftRight_eq_div_pow, Bool.eq_iff_iff, decide_eq_true_eq]
  exact ⟨Nat.eq_of_beq_eq_true, fun h => by rw [h]; rfl⟩
theorem hasB_zero (i : Nat) : hasB 0 i = false := by rw [hasB_eq, Nat.zero_testBit]
theorem hasB_lor (a b i : Nat) : hasB (Nat.lor a b) i = (hasB a i || hasB b i) := by
  rw [hasB_eq, hasB_eq, hasB_eq]; exact Nat.testBit_or a b i
theorem hasB_one {j i : Nat} (h : hasB (Nat.shiftLeft 1 j) i = true) : i = j := by
  rw [hasB_eq] at h
  have h' : (1 <<< j).testBit i = true := h
  rw [Nat.one_shiftLeft, Nat.testBit_two_pow] at h'
  exact (of_decide_eq_true h').symm
theorem ancRow_mem {k : Nat} {acc : List Nat} {o : Oper} {m : Nat} (h : hasB (ancRow k acc o) m = true) : ∃ e ∈ o.after.toList, Region.binds .any e = true ∧ (m = e.on ∨ hasB (ancLook k acc e.on) m = true) := by
  have key : ∀ (l : List Edge) (s : Nat), hasB (l.foldl (fun s e => cond (Region.binds .any e) (Nat.lor (Nat.lor (Nat.shiftLeft 1 e.on) (ancLook k acc e.on)) s) s) s) m = true → hasB s m = true ∨ ∃ e ∈ l, Region.binds .any e = true ∧ (m = e.on ∨ hasB (ancLook k acc e.on) m = true) := by
    intro l
    induction l with
    | nil => intro s h; exact .inl h
    | cons e l ih =>
      intro s h
      rw [List.foldl_cons] at h
      rcases ih _ h with h | ⟨e', h1, h2⟩
      · cases hb : Region.binds .any e with
        | true =>
          rw [hb, cond_true, hasB_lor, hasB_lor, Bool.or_eq_true, Bool.or_eq_true] at h
          rcases h with (h | h) | h
          · exact .inr ⟨e, by simp, hb, .inl (hasB_one h)⟩
          · exact .inr ⟨e, by simp, hb, .inr h⟩
          · exact .inl h
        | false => rw [hb, cond_false] at h; exact .inl h
      · exact .inr ⟨e', by simp [h1], h2⟩
  rcases key _ _ h with h | h
  · rw [hasB_zero] at h; cases h
  · exact h
theorem ancLook_cons {k : Nat} {acc : List Nat} {x i : Nat} (hl : acc.length = k) : ancLook (k + 1) (x :: acc) i = if i = k then x else ancLook k acc i := by
  simp only [ancLook]
  rcases Nat.lt_trichotomy i k with h | h | h
  · have h1 : Nat.ble (k + 1) i = false := by
      cases hb : Nat.ble (k + 1) i with
      | false => rfl
      | true => exact absurd (Nat.le_of_ble_eq_true hb) (by omega)
    have h2 : Nat.ble k i = false := by
      cases hb : Nat.ble k i with
      | false => rfl
      | true => exact absurd (Nat.le_of_ble_eq_true hb) (by omega)
    rw [h1, h2, cond_false, cond_false, if_neg (by omega), show k + 1 - (i + 1) = (k - (i + 1)) + 1 by omega]
    rfl
  · subst h
    have h1 : Nat.ble (i + 1) i = false := by
      cases hb : Nat.ble (i + 1) i with
      | false => rfl
      | true => exact absurd (Nat.le_of_ble_eq_true hb) (by omega)
    rw [h1, cond_false, if_pos rfl, Nat.sub_self]
    rfl
  · rw [Nat.ble_eq_true_of_le (by omega : k + 1 ≤ i), Nat.ble_eq_true_of_le (by omega : k ≤ i), if_neg (by omega)]
    rfl
def AncOk (pre : List Oper) (acc : List Nat) : Prop := acc.length = pre.length ∧ ∀ k m, hasB (ancLook pre.length acc k) m = true → ∃ o e, pre[k]? = some o ∧ e ∈ o.after.toList ∧ Region.binds .any e = true ∧ (m = e.on ∨ (e.on < k ∧ hasB (ancLook pre.length acc e.on) m = true))
theorem ancOk_go : ∀ (rest pre : List Oper) (acc : List Nat), AncOk pre acc → AncOk (pre ++ rest) (ancGo rest pre.length acc)
  | [], pre, acc, h => by simpa [ancGo] using h
  | o :: rest, pre, acc, h => by
    have := ancOk_go rest (pre ++ [o]) (ancRow pre.length acc o :: acc) ?_
    · simpa [ancGo] using this
    · obtain ⟨hl, h⟩ := h
      refine ⟨by simp [hl], fun k m hm => ?_⟩
      rw [show (pre ++ [o]).length = pre.length + 1 by simp, ancLook_cons hl] at hm
      have lk : ∀ i, i < pre.length → ancLook (pre ++ [o]).length (ancRow pre.length acc o :: acc) i = ancLook pre.length acc i := by
        intro i hi
        rw [show (pre ++ [o]).length = pre.length + 1 by simp, ancLook_cons hl, if_neg (by omega)]
      have small : ∀ i n, hasB (ancLook pre.length acc i) n = true → i < pre.length := by
        intro i n hh
        rcases Nat.lt_or_ge i pre.length with h | h
        · exact h
        · rw [ancLook, Nat.ble_eq_true_of_le h, cond_true, hasB_zero] at hh; cases hh
      by_cases hk : k = pre.length
      · rw [if_pos hk] at hm
        obtain ⟨e, h1, h2, h3⟩ := ancRow_mem hm
        refine ⟨o, e, by rw [hk]; simp, h1, h2, ?_⟩
        rcases h3 with h3 | h3
        · exact .inl h3
        · have hlt := small _ _ h3
          exact .inr ⟨by omega, by rw [lk _ hlt]; exact h3⟩
      · rw [if_neg hk] at hm
        have hlt := small _ _ hm
        obtain ⟨o', e, h1, h2, h3, h4⟩ := h k m hm
        refine ⟨o', e, by rw [List.getElem?_append_left hlt]; exact h1, h2, h3, ?_⟩
        rcases h4 with h4 | ⟨h4, h5⟩
        · exact .inl h4
        · exact .inr ⟨h4, by rw [lk _ (by omega)]; exact h5⟩
theorem anc_ok (ops : List Oper) : AncOk ops (ancGo ops 0 []) := by
  have := ancOk_go ops [] [] ⟨rfl, fun k m h => by
    rw [ancLook, Nat.ble_eq_true_of_le (show ([] : List Oper).length ≤ k from Nat.zero_le _), cond_true, hasB_zero] at h; cases h⟩
  rw [List.nil_append] at this
  exact this
/-- a set that holds, with each operation, what must stand ahead of it -/
def Closed (ops : List Oper) (E : Nat → Bool) : Prop := ∀ i o, E i = true → ops[i]? = some o → ∀ e ∈ o.after.toList, Region.binds .any e = true → E e.on = true
theorem anc_in {ops : List Oper} {E : Nat → Bool} (hc : Closed ops E) : ∀ (k m : Nat), ahead ops k m = true → (∀ o, ops[k]? = some o → ∀ e ∈ o.after.toList, Region.binds .any e = true → E e.on = true) → E m = true := by
  intro k
  induction k using Nat.strongRecOn with
  | _ k ih =>
    intro m hm hd
    obtain ⟨o, e, h1, h2, h3, h4⟩ := (anc_ok ops).2 k m hm
    have he := hd o h1 e h2 h3
    rcases h4 with rfl | ⟨h4, h5⟩
    · exact he
    · exact ih e.on h4 m h5 fun o' ho' e' he' hb' => hc e.on o' he ho' e' he' hb'
theorem apart_spec {ops : List Oper} {a b : Oper} {ra wa rb wb : List Nat} (h : apart ops a b ra wa rb wb = true) :
    (∀ d, a.dst = some d → d ∉ looks ops b ∧ b.dst ≠ some d) ∧ (∀ d, b.dst = some d → d ∉ looks ops a) ∧ (∀ x ∈ wa, x ∉ rb ∧ x ∉ wb) ∧ (∀ x ∈ wb, x ∉ ra) := by
  simp only [apart, Bool.and_eq_true, List.all_eq_true, Bool.not_eq_true', List.contains_eq_mem, decide_eq_false_iff_not] at h
  obtain ⟨⟨⟨h1, h2⟩, h3⟩, h4⟩ := h
  refine ⟨fun d hd => ?_, fun d hd => ?_, fun x hx => h3 x hx, fun x hx => h4 x hx⟩
  · rw [hd] at h1
    simp only [Bool.and_eq_true, Bool.not_eq_true', decide_eq_false_iff_not, bne_iff_ne, ne_eq] at h1
    exact h1
  · rw [hd] at h2
    simpa using h2
theorem bern_spec {ops : List Oper} {tr : List (List Nat × List Nat)} (h : bern ops tr = true) :
    (∀ j o, ops[j]? = some o → ∀ e ∈ o.after.toList, Region.binds .any e = true → e.on < j) ∧
    (∀ i j a b ta tb, i < j → ops[i]? = some a → ops[j]? = some b → tr[i]? = some ta → tr[j]? = some tb → ahead ops j i = true ∨ apart ops a b ta.1 ta.2 tb.1 tb.2 = true) := by
  simp only [bern, List.all_eq_true, List.mem_range, Bool.and_eq_true] at h
  have lt : ∀ j o, ops[j]? = some o → j < ops.length := fun j o ho => (List.getElem?_eq_some_iff.1 ho).1
  refine ⟨fun j o ho e he hb => ?_, fun i j a b ta tb hij ha hb hta htb => ?_⟩
  · have := (h j (lt j o ho)).1
    rw [ho] at this
    simp only [List.all_eq_true, Bool.or_eq_true, Bool.not_eq_true', decide_eq_true_eq] at this
    rcases this e he with h1 | h1
    · rw [hb] at h1; cases h1
    · exact h1
  · have := (h j (lt j b hb)).2 i hij
    rw [ha, hb, hta, htb] at this
    simp only [Bool.or_eq_true] at this
    exact this
end Go.Ev
namespace Go.Ev
set_option linter.unusedSimpArgs false
set_option linter.unusedVariables false
set_option linter.unnecessarySimpa false
open Go Go.RowKit
section
variable (ops : List Oper) (sts : List Stp) (len : Nat)
def wrF (k t : Nat) : Option AV := match ops[k]?, sts[k]? with
  | some o, some st => if o.dst = some t ∧ t < len then some st.v else none
  | _, _ => none
def wrH (k id : Nat) : Option Ent := match sts[k]? with
  | some st => lastW st.l id
  | none => none
end
theorem wrF_some {ops : List Oper} {sts : List Stp} {len k t : Nat} (h : (wrF ops sts len k t).isSome = true) : ∃ o, ops[k]? = some o ∧ o.dst = some t ∧ t < len := by
  unfold wrF at h
  split at h
  · rename_i o st ho hs
    split at h
    · rename_i hh; exact ⟨o, ho, hh.1, hh.2⟩
    · cases h
  · cases h
theorem wrH_some {sts : List Stp} {k id : Nat} (h : (wrH sts k id).isSome = true) : ∃ st, sts[k]? = some st ∧ id ∈ wrs st.l := by
  unfold wrH at h
  split at h
  · rename_i st hs; exact ⟨st, hs, (lastW_wrs _ _).1 h⟩
  · cases h
section
variable {P : Program} {A : Ann} {cal : Nat → List D → Option (List D)} {ops : List Oper} {fr : Nat → List AV} {h : Nat → List Ent} {sts : List Stp} {trs : List (List Nat × List Nat)}
theorem Walk.at (W : Walk P A cal ops ops fr h sts trs) {k : Nat} (hk : k < ops.length) : ∃ o st t, ops[k]? = some o ∧ sts[k]? = some st ∧ trs[k]? = some t ∧
    StepAt P A cal ops o st (fr k) (h k) (fr (k + 1)) (h (k + 1)) ∧ (∀ id, id ∈ t.1 ↔ id ∈ rds st.l) ∧ (∀ id, id ∈ t.2 ↔ id ∈ wrs st.l) := by
  obtain ⟨w1, w2, w3⟩ := W
  have a := List.getElem?_eq_getElem hk
  have b := List.getElem?_eq_getElem (l := sts) (i := k) (by omega)
  have c := List.getElem?_eq_getElem (l := trs) (i := k) (by omega)
  exact ⟨_, _, _, a, b, c, w3 k _ _ _ a b c⟩
theorem Walk.len (W : Walk P A cal ops ops fr h sts trs) : ∀ k, k ≤ ops.length → (fr k).length = (fr 0).length
  | 0, _ => rfl
  | k + 1, hk => by
    obtain ⟨o, st, t, ho, hs, ht, S, _⟩ := W.at (k := k) (by omega)
    rw [S.fr, ← W.len k (by omega)]
    cases o.dst <;> simp
theorem Walk.frame (W : Walk P A cal ops ops fr h sts trs) : ∀ k, k ≤ ops.length → ∀ t, (fr k).getD t .un = acc (wrF ops sts (fr 0).length) (fun t => (fr 0).getD t .un) allE k t
  | 0, _, t => rfl
  | k + 1, hk, t => by
    obtain ⟨o, st, tr, ho, hs, ht, S, _⟩ := W.at (k := k) (by omega)
    have ih := W.frame k (by omega) t
    have hl := W.len k (by omega)
    simp only [acc, allE, if_true]
    rw [← ih, S.fr]
    unfold wrF
    rw [ho, hs]
    simp only
    cases hd : o.dst with
    | none => simp
    | some d =>
      simp only [Option.some.injEq, List.getD_eq_getElem?_getD, List.getElem?_set]
      by_cases hdt : d = t
      · subst hdt
        by_cases hlt : @LT.lt Nat _ d (fr k).length
        · rw [if_pos rfl, if_pos hlt, if_pos ⟨rfl, by rw [← hl]; exact hlt⟩]; simp
        · rw [if_pos rfl, if_neg hlt, if_neg (by rw [← hl]; simpa using hlt)]; simp
          rw [List.getElem?_eq_none (Nat.le_of_not_lt hlt)]; simp
      · rw [if_neg hdt, if_neg (by simp [hdt])]; simp
theorem Walk.heap (W : Walk P A cal ops ops fr h sts trs) : ∀ k, k ≤ ops.length → ∀ id, ent (h k) id = acc (wrH sts) (ent (h 0)) allE k id
  | 0, _, id => rfl
  | k + 1, hk, id => by
    obtain ⟨o, st, tr, ho, hs, ht, S, _⟩ := W.at (k := k) (by omega)
    have ih := W.heap k (by omega) id
    simp only [acc, allE, if_true]
    rw [S.heap, appl_lastW, ih]
    unfold wrH
    rw [hs]
theorem Walk.mono (W : Walk P A cal ops ops fr h sts trs) (i : Nat) : ∀ k, i ≤ k → k ≤ ops.length → (h i).length ≤ (h k).length
  | 0, hi, _ => by have : i = 0 := by omega
                   rw [this]; exact Nat.le_refl _
  | k + 1, hi, hk => by
    by_cases e : i = k + 1
    · rw [e]; exact Nat.le_refl _
    · obtain ⟨o, st, tr, ho, hs, ht, S, _⟩ := W.at (k := k) (by omega)
      exact Nat.le_trans (W.mono i k (by omega) (by omega)) S.grow
theorem Walk.news (W : Walk P A cal ops ops fr h sts trs) {i j id : Nat} {a b : Stp} (hi : sts[i]? = some a) (hj : sts[j]? = some b) (hij : i ≠ j) (h1 : id ∈ news a.l) : id ∉ Go.Ev.news b.l := by
  intro h2
  have li := (List.getElem?_eq_some_iff.1 hi).1
  have lj := (List.getElem?_eq_some_iff.1 hj).1
  have hl := W.1
  obtain ⟨_, a', _, _, ha, _, Si, _⟩ := W.at (k := i) (by omega)
  obtain ⟨_, b', _, _, hb, _, Sj, _⟩ := W.at (k := j) (by omega)
  rw [hi] at ha; cases ha
  rw [hj] at hb; cases hb
  have n1 := Si.news id h1
  have n2 := Sj.news id h2
  rcases Nat.lt_or_gt_of_ne hij with hlt | hlt
  · have := W.mono (i + 1) j (by omega) (by omega); omega
  · have := W.mono (j + 1) i (by omega) (by omega); omega

/-- two operations that may change places do not meet -/
theorem conf {E : Nat → Bool} (W : Walk P A cal ops ops fr h sts trs) (hb : bern ops trs = true) (hc : Closed ops E) {j : Nat} {o : Oper} {st : Stp} (ho : ops[j]? = some o) (hst : sts[j]? = some st) (hE : E j = false)
    (hdep : ∀ e ∈ o.after.toList, Region.binds .any e = true → E e.on = true) {i : Nat} {oi : Oper} {si : Stp} (hoi : ops[i]? = some oi) (hsi : sts[i]? = some si) (hij : (i < j ∧ E i = false) ∨ (j < i ∧ E i = true)) :
    (∀ d, oi.dst = some d → d ∉ looks ops o ∧ o.dst ≠ some d) ∧ (∀ id, id ∈ wrs si.l → id ∉ rds st.l ∧ id ∉ wrs st.l) := by
  have lj := (List.getElem?_eq_some_iff.1 ho).1
  have li := (List.getElem?_eq_some_iff.1 hoi).1
  obtain ⟨o', st', tj, ho', hst', htj, S, r1, r2⟩ := W.at lj
  rw [ho] at ho'; cases ho'
  rw [hst] at hst'; cases hst'
  obtain ⟨oi', si', ti, hoi', hsi', hti, Si, q1, q2⟩ := W.at li
  rw [hoi] at hoi'; cases hoi'
  rw [hsi] at hsi'; cases hsi'
  rcases hij with ⟨hlt, hEi⟩ | ⟨hlt, hEi⟩
  · rcases (bern_spec hb).2 i j oi o ti tj hlt hoi ho hti htj with ha | ha
    · have := anc_in hc j i ha fun o'' ho'' => by rw [ho] at ho''; cases ho''; exact hdep
      rw [hEi] at this; cases this
    · obtain ⟨a1, a2, a3, a4⟩ := apart_spec ha
      refine ⟨a1, fun id hid => ?_⟩
      obtain ⟨b1, b2⟩ := a3 id ((q2 id).2 hid)
      exact ⟨fun hh => b1 ((r1 id).2 hh), fun hh => b2 ((r2 id).2 hh)⟩
  · rcases (bern_spec hb).2 j i o oi tj ti hlt ho hoi htj hti with ha | ha
    · have := anc_in hc i j ha fun o'' ho'' e he hb' => hc i o'' hEi ho'' e he hb'
      rw [hE] at this; cases this
    · obtain ⟨a1, a2, a3, a4⟩ := apart_spec ha
      refine ⟨fun d hd => ⟨a2 d hd, fun hod => (a1 d hod).2 hd⟩, fun id hid => ?_⟩
      have h1 := (q2 id).2 hid
      exact ⟨fun hh => a4 id h1 ((r1 id).2 hh), fun hh => (a3 id ((r2 id).2 hh)).2 h1⟩
end

section
variable {P : Program} {A : Ann} {cal : Nat → List D → Option (List D)} {ops : Array Oper} {fr : Nat → List AV} {h : Nat → List Ent} {sts : List Stp} {trs : List (List Nat × List Nat)}
def frE (ops : List Oper) (sts : List Stp) (fr0 : List AV) (E : Nat → Bool) : List AV := (List.range fr0.length).map (acc (wrF ops sts fr0.length) (fun t => fr0.getD t .un) E ops.length)
def hpE (ops : List Oper) (sts : List Stp) (h0 : List Ent) (E : Nat → Bool) : Hp := acc (wrH sts) (ent h0) E ops.length
theorem frE_getD {ops : List Oper} {sts : List Stp} {fr0 : List AV} {E : Nat → Bool} {t : Nat} (ht : t < fr0.length) : (frE ops sts fr0 E).getD t .un = acc (wrF ops sts fr0.length) (fun t => fr0.getD t .un) E ops.length t := by
  simp [frE, ht]
structure At (w0 : World) (M : Nat → Nat → Prop) (ops : List Oper) (sts : List Stp) (fr0 : List AV) (h0 : List Ent) (top : Nat) (pn : List AV) (gv : List Value) (E : Nat → Bool) (a : Act) (w : World) (ρ : Env) : Prop where
  fr : RepVs ρ (frE ops sts fr0 E) a.tmps.toList
  pn : RepVs ρ pn gv
  inv : Inv w0 M ρ (hpE ops sts h0 E) w
  fresh : ∀ j st, E j = false → sts[j]? = some st → ∀ id ∈ news st.l, ρ id = none
  top : ∀ id, top ≤ id → ρ id = none
  calm : a.defers = []
theorem wpOp_of {P : Program} {ops : Array Oper} {Q : Exit → Act → World → Prop} {j : Nat} {o : Oper} (ho : ops[j]? = some o) {K : Act → World → Prop} {a : Act} {w : World}
    (h1 : Region.wanted o (yielded ops a.tmps) = true → o.wp P a w K Q) (h2 : Region.wanted o (yielded ops a.tmps) = false → K (a.put o.dst undef) w) : wpOp P ops Q j K a w := by
  unfold wpOp
  rw [ho]
  simp only
  split
  · rename_i hw; exact .inl (h1 hw)
  · rename_i hw; exact h2 (by simpa using hw)
theorem drawn_ok (G : Good P) (hcal : CalOk P A cal) {w0 : World} {M : Nat → Nat → Prop} {pn : List AV} {gv : List Value} {Q : Exit → Act → World → Prop} (W : Walk P A cal ops.toList ops.toList fr h sts trs) (hb : bern ops.toList trs = true)
    (hQ : ∀ ρ a w, StR w0 M ρ ⟨fr ops.size, pn, h ops.size⟩ gv a w → Q .normal a w) : ∀ (fuel : Nat) (listed : Array Bool) (a : Act) (w : World) (ρ : Env), listed.size = ops.size → cnt (fun i => listed.getD i false) ops.size ≤ fuel →
    Closed ops.toList (fun i => listed.getD i false) → At w0 M ops.toList sts (fr 0) (h 0) (h ops.size).length pn gv (fun i => listed.getD i false) a w ρ → wpAny P .any ops Q fuel listed a w := by
  have final : ∀ (listed : Array Bool) (a : Act) (w : World) (ρ : Env), (∀ i, i < ops.size → listed.getD i false = true) → At w0 M ops.toList sts (fr 0) (h 0) (h ops.size).length pn gv (fun i => listed.getD i false) a w ρ → Q .normal a w := by
    intro listed a w ρ hall J
    refine hQ ρ a w ⟨?_, J.pn, ?_, J.top, J.calm⟩
    · have e : frE ops.toList sts (fr 0) (fun i => listed.getD i false) = fr ops.size := by
        have hl := W.len ops.size (by simp)
        apply List.ext_getElem?
        intro t
        by_cases ht : t < (fr 0).length
        · have h1 := W.frame ops.size (by simp) t
          rw [← acc_pre (j := ops.size) _ _ (fun i hi _ => hall i hi) ops.size (Nat.le_refl _)] at h1
          simp only [frE, List.getElem?_map, List.getElem?_range ht, Option.map_some, Array.length_toList]
          rw [← h1, List.getElem?_eq_getElem (by omega)]
          simp [List.getD_eq_getElem?_getD, hl, ht]
        · rw [List.getElem?_eq_none (by simp [frE]; omega), List.getElem?_eq_none (by omega)]
      rw [← e]; exact J.fr
    · have e : hpE ops.toList sts (h 0) (fun i => listed.getD i false) = ent (h ops.size) := by
        funext id
        rw [W.heap ops.size (by simp) id, ← acc_pre (j := ops.size) _ _ (fun i hi _ => hall i hi) ops.size (Nat.le_refl _)]
        simp [hpE]
      have := J.inv
      rw [e] at this
      exact this
  intro fuel
  induction fuel with
  | zero =>
    intro listed a w ρ hsz hcnt hcl J
    have hall := cnt_zero (Nat.le_zero.1 hcnt)
    refine ⟨?_, final listed a w ρ hall J⟩
    rw [List.eq_nil_iff_forall_not_mem]
    intro i hi
    rw [mem_ready] at hi
    obtain ⟨h1, o, ho, _⟩ := hi
    have hlt := (Array.getElem?_eq_some_iff.1 ho).1
    have := hall i hlt
    simp only [Array.getD_eq_getD_getElem?, Array.getElem?_eq_getElem (show i < listed.size by omega), Option.getD_some] at this h1
    rw [this] at h1; cases h1
  | succ fuel ih =>
    intro listed a w ρ hsz hcnt hcl J
    refine ⟨fun hr => ?_, fun j hj => ?_⟩
    · refine final listed a w ρ ?_ J
      intro i
      induction i using Nat.strongRecOn with
      | _ i ih2 =>
        intro hi
        cases hE : listed.getD i false with
        | true => rfl
        | false =>
          exfalso
          have hmem : i ∈ Region.ready .any ops listed := by
            rw [mem_ready]
            refine ⟨?_, ops[i], Array.getElem?_eq_getElem hi, fun e he hb' => ?_⟩
            · simp only [Array.getD_eq_getD_getElem?, Array.getElem?_eq_getElem (show i < listed.size by omega), Option.getD_some] at hE ⊢
              exact hE
            · have := (bern_spec hb).1 i ops[i] (by simp [hi]) e (by simpa using he) hb'
              exact ih2 e.on this (by omega)
          rw [hr] at hmem; cases hmem
    · rw [mem_ready] at hj
      obtain ⟨hjl, o, ho, hdeps⟩ := hj
      have hlt := (Array.getElem?_eq_some_iff.1 ho).1
      have hlt' : j < ops.toList.length := by simpa using hlt
      have hoL : ops.toList[j]? = some o := by simpa using ho
      have hE : listed.getD j false = false := by
        simp only [Array.getD_eq_getD_getElem?, Array.getElem?_eq_getElem (show j < listed.size by omega), Option.getD_some] at hjl ⊢
        exact hjl
      have hdep : ∀ e ∈ o.after.toList, Region.binds .any e = true → listed.getD e.on false = true := fun e he hb' => hdeps e (by simpa using he) hb'
      obtain ⟨o', st, t, ho', hst, ht, S, r1, r2⟩ := W.at hlt'
      rw [hoL] at ho'; cases ho'
      have hadd : (fun i => (listed.setIfInBounds j true).getD i false) = Go.Ev.add (fun i => listed.getD i false) j := by
        funext i
        simp only [Go.Ev.add]
        by_cases hij : i = j
        · subst hij
          simp [show i < listed.size by omega]
        · rw [if_neg hij, getD_set_ne false (Ne.symm hij)]
      have cf : ∀ {i : Nat} {oi : Oper} {si : Stp}, ops.toList[i]? = some oi → sts[i]? = some si → ((i < j ∧ listed.getD i false = false) ∨ (j < i ∧ listed.getD i false = true)) →
          (∀ d, oi.dst = some d → d ∉ looks ops.toList o ∧ o.dst ≠ some d) ∧ (∀ id, id ∈ wrs si.l → id ∉ rds st.l ∧ id ∉ wrs st.l) :=
        fun h1 h2 h3 => conf (E := fun i => listed.getD i false) W hb hcl hoL hst hE hdep h1 h2 h3
      have stOf : ∀ i oi, ops.toList[i]? = some oi → ∃ si, sts[i]? = some si := fun i oi hi => by
        have := (List.getElem?_eq_some_iff.1 hi).1
        exact ⟨_, List.getElem?_eq_getElem (by rw [W.1]; exact this)⟩
      have opOf : ∀ i si, sts[i]? = some si → ∃ oi, ops.toList[i]? = some oi := fun i oi hi => by
        have := (List.getElem?_eq_some_iff.1 hi).1
        exact ⟨_, List.getElem?_eq_getElem (by rw [← W.1]; exact this)⟩
      have frAt : ∀ d, d ∈ looks ops.toList o → (frE ops.toList sts (fr 0) (fun i => listed.getD i false)).getD d .un = (fr j).getD d .un := by
        intro d hd
        by_cases hdl : d < (fr 0).length
        · rw [frE_getD hdl, W.frame j (by omega) d]
          refine acc_at _ _ (E := fun i => listed.getD i false) (loc := d) hE (by omega) (fun i hi hw => ?_) (fun i hi hw => ?_)
          · obtain ⟨oi, hoi, hdi, _⟩ := wrF_some hw
            obtain ⟨si, hsi⟩ := stOf i oi hoi
            cases hEi : listed.getD i false with
            | true => rfl
            | false => exact absurd hd ((cf hoi hsi (.inl ⟨hi, hEi⟩)).1 d hdi).1
          · obtain ⟨oi, hoi, hdi, _⟩ := wrF_some hw
            obtain ⟨si, hsi⟩ := stOf i oi hoi
            cases hEi : listed.getD i false with
            | false => rfl
            | true => exact absurd hd ((cf hoi hsi (.inr ⟨hi, hEi⟩)).1 d hdi).1
        · have e1 : (fr j).length = (fr 0).length := W.len j (by omega)
          simp only [List.getD_eq_getElem?_getD]
          rw [List.getElem?_eq_none (by simp [frE]; omega), List.getElem?_eq_none (by omega)]
      have hpAt : ∀ id, id ∈ rds st.l ∨ id ∈ wrs st.l → hpE ops.toList sts (h 0) (fun i => listed.getD i false) id = ent (h j) id := by
        intro id hid
        rw [W.heap j (by omega) id]
        refine acc_at _ _ (E := fun i => listed.getD i false) (loc := id) hE (by omega) (fun i hi hw => ?_) (fun i hi hw => ?_)
        · obtain ⟨si, hsi, hmem⟩ := wrH_some hw
          obtain ⟨oi, hoi⟩ := opOf i si hsi
          cases hEi : listed.getD i false with
          | true => rfl
          | false =>
            have := (cf hoi hsi (.inl ⟨hi, hEi⟩)).2 id hmem
            rcases hid with hid | hid
            · exact absurd hid this.1
            · exact absurd hid this.2
        · obtain ⟨si, hsi, hmem⟩ := wrH_some hw
          obtain ⟨oi, hoi⟩ := opOf i si hsi
          cases hEi : listed.getD i false with
          | false => rfl
          | true =>
            have := (cf hoi hsi (.inr ⟨hi, hEi⟩)).2 id hmem
            rcases hid with hid | hid
            · exact absurd hid this.1
            · exact absurd hid this.2
      have hpAdd : hpE ops.toList sts (h 0) (Go.Ev.add (fun i => listed.getD i false) j) = appl st.l (hpE ops.toList sts (h 0) (fun i => listed.getD i false)) := by
        funext id
        rw [appl_lastW]
        have := acc_add (wrH sts) (ent (h 0)) (E := fun i => listed.getD i false) (j := j) (loc := id) hE (fun hw i hi hwi => ?_) ops.toList.length hlt'
        · simp only [hpE]
          rw [this]
          unfold wrH
          rw [hst]
        · obtain ⟨sj, hsj, hm⟩ := wrH_some hw
          rw [hst] at hsj; cases hsj
          obtain ⟨si, hsi, hmem⟩ := wrH_some hwi
          obtain ⟨oi, hoi⟩ := opOf i si hsi
          cases hEi : listed.getD i false with
          | false => rfl
          | true => exact absurd hm ((cf hoi hsi (.inr ⟨hi, hEi⟩)).2 id hmem).2
      have frAdd : frE ops.toList sts (fr 0) (Go.Ev.add (fun i => listed.getD i false) j) = (match o.dst with | some d => (frE ops.toList sts (fr 0) (fun i => listed.getD i false)).set d st.v | none => frE ops.toList sts (fr 0) (fun i => listed.getD i false)) := by
        apply List.ext_getElem?
        intro d
        by_cases hdl : d < (fr 0).length
        · have key := acc_add (wrF ops.toList sts (fr 0).length) (fun t => (fr 0).getD t .un) (E := fun i => listed.getD i false) (j := j) (loc := d) hE (fun hw i hi hwi => ?_) ops.toList.length hlt'
          · have e1 : (frE ops.toList sts (fr 0) (Go.Ev.add (fun i => listed.getD i false) j))[d]? = some (acc (wrF ops.toList sts (fr 0).length) (fun t => (fr 0).getD t .un) (Go.Ev.add (fun i => listed.getD i false) j) ops.toList.length d) := by
              simp [frE, hdl]
            have e2 : (frE ops.toList sts (fr 0) (fun i => listed.getD i false))[d]? = some (acc (wrF ops.toList sts (fr 0).length) (fun t => (fr 0).getD t .un) (fun i => listed.getD i false) ops.toList.length d) := by
              simp [frE, hdl]
            rw [e1, key]
            unfold wrF
            rw [hoL, hst]
            simp only
            cases hd : o.dst with
            | none => simp only [reduceCtorEq, false_and, if_false, Option.getD_none]; rw [e2]; rfl
            | some d' =>
              simp only [Option.some.injEq]
              rw [List.getElem?_set]
              by_cases hdd : d' = d
              · subst hdd
                rw [if_pos ⟨rfl, hdl⟩, if_pos rfl, if_pos (by simp [frE, hdl])]
                rfl
              · rw [if_neg (by simp [hdd]), if_neg hdd, e2]
                rfl
          · obtain ⟨oj, hoj, hdj, _⟩ := wrF_some hw
            rw [hoL] at hoj; cases hoj
            obtain ⟨oi, hoi, hdi, _⟩ := wrF_some hwi
            obtain ⟨si, hsi⟩ := stOf i oi hoi
            cases hEi : listed.getD i false with
            | false => rfl
            | true => exact absurd hdj ((cf hoi hsi (.inr ⟨hi, hEi⟩)).1 d hdi).2
        · rw [List.getElem?_eq_none (by simp [frE]; omega)]
          cases o.dst with
          | none => simp only; rw [List.getElem?_eq_none (by simp [frE]; omega)]
          | some d' => simp only; rw [List.getElem?_eq_none (by simp [frE]; omega)]
      have hcl' : Closed ops.toList (fun i => (listed.setIfInBounds j true).getD i false) := by
        rw [hadd]
        intro i oi hEi hoi e he hb'
        simp only [Go.Ev.add] at hEi ⊢
        by_cases hij : i = j
        · subst hij
          rw [hoL] at hoi; cases hoi
          have := hdep e he hb'
          split
          · rfl
          · exact this
        · rw [if_neg hij] at hEi
          have := hcl i oi hEi hoi e he hb'
          split
          · rfl
          · exact this
      have hcnt' : cnt (fun i => (listed.setIfInBounds j true).getD i false) ops.size ≤ fuel := by
        rw [hadd]
        have := (cnt_add (E := fun i => listed.getD i false) hE ops.size).1 hlt
        omega
      have next : ∀ vv w' ρ', Inv w0 M ρ' (appl st.l (hpE ops.toList sts (h 0) (fun i => listed.getD i false))) w' → Sub ρ ρ' → (∀ id, id ∉ Go.Ev.news st.l → ρ' id = ρ id) → RepV ρ' st.v vv →
          wpAny P .any ops Q fuel (listed.setIfInBounds j true) (a.put o.dst vv) w' := by
        intro vv w' ρ' k1 k2 k3 k4
        refine ih _ _ _ ρ' (by simp [hsz]) hcnt' hcl' ⟨?_, J.pn.mono k2 _ _, ?_, ?_, ?_, ?_⟩
        · rw [hadd, frAdd]
          have hf := J.fr.mono k2 _ _
          cases hd : o.dst with
          | none => exact hf
          | some d => simpa [Act.put] using hf.set d k4
        · rw [hadd, hpAdd]; exact k1
        · intro i si hEi hsi id hid
          rw [show (listed.setIfInBounds j true).getD i false = _ from congrFun hadd i] at hEi
          have hij : i ≠ j := by rintro rfl; simp [Go.Ev.add] at hEi
          have hEi' : listed.getD i false = false := by simpa [Go.Ev.add, hij] using hEi
          rw [k3 id (W.news hsi hst hij hid)]
          exact J.fresh i si hEi' hsi id hid
        · intro id hid
          have hne : id ∉ Go.Ev.news st.l := fun hm => by
            have := (S.news id hm).2
            have := W.mono (j + 1) ops.size (by omega) (by simp)
            omega
          rw [k3 id hne]; exact J.top id hid
        · cases o.dst <;> exact J.calm
      have hwant : Region.wanted o (yielded ops a.tmps) = st.ran := by
        have hm := S.meets
        unfold Meets at hm
        unfold Region.wanted
        split at hm
        · rename_i hg; rw [hg, hm]
        · rename_i g want hg
          rcases hm with ⟨t', c, h1, h2, h3⟩ | ⟨t', h1, h2, h3⟩
          · have hlk : t' ∈ looks ops.toList o := by
              unfold looks
              rw [hg]
              exact List.mem_append_right _ (by simp only [h1, Option.toList_some, List.mem_singleton])
            have hfr := frAt t' hlk
            rw [h2] at hfr
            have := yielded_of (ops := ops) J.fr h1 hfr
            rw [hg, h3]
            simp only [this]
            cases c <;> cases want <;> rfl
          · have hlk : t' ∈ looks ops.toList o := by
              unfold looks
              rw [hg]
              exact List.mem_append_right _ (by simp only [h1, Option.toList_some, List.mem_singleton])
            have hfr := frAt t' hlk
            rw [h2] at hfr
            have := yielded_none (ops := ops) J.fr h1 hfr
            rw [hg, h3]
            simp only [this]
            cases want <;> rfl
      refine wpOp_of ho (fun hw => ?_) (fun hw => ?_)
      · rw [hwant] at hw
        have hcongr : stepP P A o (frE ops.toList sts (fr 0) (fun i => listed.getD i false)) = stepP P A o (fr j) := by
          refine stepP_congr fun x hx => ?_
          cases x with
          | tmp d => exact frAt d (List.mem_append_left _ (List.mem_filterMap.2 ⟨.tmp d, by simpa using hx, rfl⟩))
          | _ => rfl
        have Si : Sit cal (stepP P A o (frE ops.toList sts (fr 0) (fun i => listed.getD i false))) st.l st.v w0 M ρ (hpE ops.toList sts (h 0) (fun i => listed.getD i false)) w :=
          ⟨by rw [hcongr]; exact S.did hw, S.cons.congr hpAt, J.fresh j st hE hst, S.nodup, J.inv⟩
        exact sit_wp G hcal Si J.fr fun vv w' F => by
          obtain ⟨ρ', k1, k2, k3, k4⟩ := F
          exact next vv w' ρ' k1 k2 k3 k4
      · rw [hwant] at hw
        obtain ⟨e1, e2⟩ := S.idle hw
        refine next undef w ρ ?_ (Sub.refl ρ) (fun _ _ => rfl) (by rw [e2]; simp only [RepV]; exact ⟨#[], rfl, by simp [RepVs]⟩)
        rw [e1]; exact J.inv
end
end Go.Ev
namespace Go.Ev
set_option linter.unusedSimpArgs false
set_option linter.unusedVariables false
set_option linter.unnecessarySimpa false
open Go Go.RowKit

/-! results -/
section
variable {cal : Nat → List D → Option (List D)} {α : Type} {u : α} {P : Program} {w0 : World} {M : Nat → Nat → Prop} {ρ : Env} {g : Hp} {w : World}
theorem aggN'_ok {agg : Bool} {cs : List AV} {us : List Value} {K : AV → Prog α} {l : List Ac} (S : Sit0 cal (aggN' agg cs K) l u ρ g) (h : RepVs ρ cs us) :
    ∃ c, Sit0 cal (K c) l u ρ g ∧ RepV ρ c (ofCells agg us) ∧ (agg = false → us.length = 1) := by
  unfold aggN' at S
  split at S
  · rename_i ha
    refine ⟨_, S, ?_, fun h0 => by rw [ha] at h0; cases h0⟩
    simp only [RepV, ofCells, ha, if_true]
    exact ⟨us.toArray, rfl, by simpa using h⟩
  · rename_i ha
    split at S
    · simp only [RepVs] at h
      obtain ⟨v, us, rfl, h1, rfl⟩ := h
      exact ⟨_, S, by simpa [ofCells, ha] using h1, fun _ => rfl⟩
    · exact S.fail
theorem loadP'_ok (I : HeapOk ρ g w) {t : TypeId} {x : AV} {xv : Value} {K : AV → Prog α} {l : List Ac} (S : Sit0 cal (loadP' P t x K) l u ρ g) (hx : RepV ρ x xv) :
    ∃ c v l', Sit0 cal (K c) l' u ρ g ∧ Reads l l' ∧ RepV ρ c v ∧ (do loadVar t (← asAddr xv) : Sem Value).run P w = .ok v w := by
  unfold loadP' at S
  split at S
  · rename_i id i o
    have S0 := S.chk; clear S; obtain ⟨hk, S⟩ := S0
    simp only [RepV] at hx
    obtain ⟨p, a, hp, hb, hi, rfl⟩ := hx
    have S0 := S.rd; clear S; obtain ⟨l', rfl, S⟩ := S0
    split at S
    · rename_i own cs hg
      split at S
      · have S0 := S.chk; clear S; obtain ⟨hl, S⟩ := S0
        obtain ⟨q, hq, hr⟩ := I.rep id (by rw [hg]; simp)
        rw [hp] at hq; cases hq
        rw [hg] at hr
        obtain ⟨h1, y, us, hy, hs, hus, hcl, _⟩ := hr
        rw [hb] at hy; cases hy
        have hrep := (hus.drop o).take (P.cellsOf t)
        obtain ⟨c, S1, hc, h1'⟩ := aggN'_ok S hrep
        refine ⟨c, _, l', S1, (Reads.refl _).cons, hc, ?_⟩
        have hcells : CellsL w (a.add (0 * p.size + o)) ((us.drop o).take (P.cellsOf t)) := by
          rw [show 0 * p.size + o = o from by omega]; exact hcl.sub o _
        simp only [asAddr, Sem.run_bind, Sem.run_pure, Result.andThen_ok]
        exact loadVar_ok hk hcells (by rw [hrep.length]; exact Nat.eq_of_beq_eq_true hl) h1'
      · exact S.fail
    · exact S.fail
  · exact S.fail
def Res1 (P : Program) (tmps : Array Value) (w : World) : ResultVar → Value → Prop
  | .tmp t, v => v = tmps.getD t undef
  | .cell a t, v => (do loadVar t (← asAddr (tmps.getD a undef)) : Sem Value).run P w = .ok v w
def ResL (P : Program) (tmps : Array Value) (w : World) : List ResultVar → List Value → Prop
  | [], vs => vs = []
  | r :: rs, vs => ∃ v us, vs = v :: us ∧ Res1 P tmps w r v ∧ ResL P tmps w rs us
theorem loadAll_ok (I : HeapOk ρ g w) {fr : List AV} {tmps : Array Value} (h : RepVs ρ fr tmps.toList) : ∀ (rs : List ResultVar) {K : List AV → Prog α} {l : List Ac}, Sit0 cal (loadAll P fr rs K) l u ρ g →
    ∃ cs vs l', Sit0 cal (K cs) l' u ρ g ∧ Reads l l' ∧ RepVs ρ cs vs ∧ ResL P tmps w rs vs
  | [], K, l, S => ⟨[], [], l, by simpa only [loadAll] using S, .refl l, by simp [RepVs], rfl⟩
  | r :: rs, K, l, S => by
    simp only [loadAll] at S
    have one : ∃ c v l', Sit0 cal (loadAll P fr rs fun vs => K (c :: vs)) l' u ρ g ∧ Reads l l' ∧ RepV ρ c v ∧ Res1 P tmps w r v := by
      unfold loadRes at S
      cases r with
      | tmp t => exact ⟨_, _, l, S, .refl l, h.get t, by simp [Res1, Array.getD_eq_getD_getElem?]⟩
      | cell a t =>
        have hv := h.get a
        obtain ⟨c, v, l', S1, r1, hc, hr⟩ := loadP'_ok I S hv
        exact ⟨c, v, l', S1, r1, hc, by simp only [Res1]; rw [← hr]; simp [Array.getD_eq_getD_getElem?]⟩
    obtain ⟨c, v, l1, S1, r1, hc, hr⟩ := one
    obtain ⟨cs, vs, l2, S2, r2, hcs, hrs⟩ := loadAll_ok I h rs S1
    exact ⟨c :: cs, v :: vs, l2, S2, r1.trans r2, RepVs.cons hc hcs, v, vs, rfl, hr, hrs⟩
theorem ResL.length {tmps : Array Value} : ∀ {rs : List ResultVar} {vs : List Value}, ResL P tmps w rs vs → vs.length = rs.length
  | [], vs, h => by simp only [ResL] at h; simp [h]
  | r :: rs, vs, h => by
    simp only [ResL] at h
    obtain ⟨v, us, rfl, h1, h2⟩ := h
    simp [ResL.length h2]
theorem results_run {fn : Func} {tmps : Array Value} {vs : List Value} (h : ResL P tmps w fn.results.toList vs) : (results fn tmps).run P w = .ok (retVal vs) w := by
  have key : ∀ (rs : List ResultVar) (vs : List Value), ResL P tmps w rs vs → (rs.mapM fun (r : ResultVar) => (match r with
      | .tmp t => pure (tmps.getD t undef)
      | .cell a t => do loadVar t (← asAddr (tmps.getD a undef)) : Sem Value)).run P w = .ok vs w := by
    intro rs
    induction rs with
    | nil => intro vs h; simp only [ResL] at h; subst h; simp
    | cons r rs ih =>
      intro vs h
      simp only [ResL] at h
      obtain ⟨v, us, rfl, h1, h2⟩ := h
      have ih := ih us h2
      rw [List.mapM_cons]
      cases r with
      | tmp t => simp only [Res1] at h1; subst h1; simp only [Sem.run_bind, Sem.run_pure, Result.andThen_ok, ih]
      | cell a t => simp only [Res1] at h1; rw [Sem.run_bind, h1, Result.andThen_ok, Sem.run_bind, ih, Result.andThen_ok, Sem.run_pure]
  have k := key _ _ h
  unfold results
  rw [Array.mapM_eq_mapM_toList]
  rw [Sem.run_bind, Sem.run_map]
  generalize hk : Sem.run P (List.mapM _ fn.results.toList) w = r
  have hr : r = .ok vs w := hk.symm.trans k
  subst hr
  simp only [Result.andThen_ok, Sem.run_pure]
  cases vs with
  | nil => simp [retVal]
  | cons v vs => cases vs with
    | nil => simp [retVal]
    | cons _ _ => simp [retVal]
end
end Go.Ev
