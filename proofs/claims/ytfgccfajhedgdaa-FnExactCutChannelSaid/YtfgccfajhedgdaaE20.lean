/- The evaluator: a drawn region, its proof. -/
import Derived.Test.YtfgccfajhedgdaaE19
namespace Go.Ev
set_option linter.unusedSimpArgs false
set_option linter.unusedVariables false
set_option linter.unnecessarySimpa false
open Go Go.RowKit
section
variable (ops : List Oper) (sts : List Stp) (len : Nat)
def wrF (k t : Nat) : Option AV := match ops[k]?, sts[k]? with
  | some o, some st => if o.dst = some t ∧ t < len then some st.v else none
  | _, _ => none
def wrH (k id : Nat) : Option Ent := match sts[k]? with
  | some st => lastW st.l id
  | none => none
end
theorem wrF_some {ops : List Oper} {sts : List Stp} {len k t : Nat} (h : (wrF ops sts len k t).isSome = true) : ∃ o, ops[k]? = some o ∧ o.dst = some t ∧ t < len := by
  unfold wrF at h
  split at h
  · rename_i o st ho hs
    split at h
    · rename_i hh; exact ⟨o, ho, hh.1, hh.2⟩
    · cases h
  · cases h
theorem wrH_some {sts : List Stp} {k id : Nat} (h : (wrH sts k id).isSome = true) : ∃ st, sts[k]? = some st ∧ id ∈ wrs st.l := by
  unfold wrH at h
  split at h
  · rename_i st hs; exact ⟨st, hs, (lastW_wrs _ _).1 h⟩
  · cases h
section
variable {P : Program} {A : Ann} {cal : Nat → List D → Option (List D)} {ops : List Oper} {fr : Nat → List AV} {h : Nat → List Ent} {sts : List Stp} {trs : List (List Nat × List Nat)}
theorem Walk.at (W : Walk P A cal ops ops fr h sts trs) {k : Nat} (hk : k < ops.length) : ∃ o st t, ops[k]? = some o ∧ sts[k]? = some st ∧ trs[k]? = some t ∧
    StepAt P A cal ops o st (fr k) (h k) (fr (k + 1)) (h (k + 1)) ∧ (∀ id, id ∈ t.1 ↔ id ∈ rds st.l) ∧ (∀ id, id ∈ t.2 ↔ id ∈ wrs st.l) := by
  obtain ⟨w1, w2, w3⟩ := W
  have a := List.getElem?_eq_getElem hk
  have b := List.getElem?_eq_getElem (l := sts) (i := k) (by omega)
  have c := List.getElem?_eq_getElem (l := trs) (i := k) (by omega)
  exact ⟨_, _, _, a, b, c, w3 k _ _ _ a b c⟩
theorem Walk.len (W : Walk P A cal ops ops fr h sts trs) : ∀ k, k ≤ ops.length → (fr k).length = (fr 0).length
  | 0, _ => rfl
  | k + 1, hk => by
    obtain ⟨o, st, t, ho, hs, ht, S, _⟩ := W.at (k := k) (by omega)
    rw [S.fr, ← W.len k (by omega)]
    cases o.dst <;> simp
theorem Walk.frame (W : Walk P A cal ops ops fr h sts trs) : ∀ k, k ≤ ops.length → ∀ t, (fr k).getD t .un = acc (wrF ops sts (fr 0).length) (fun t => (fr 0).getD t .un) allE k t
  | 0, _, t => rfl
  | k + 1, hk, t => by
    obtain ⟨o, st, tr, ho, hs, ht, S, _⟩ := W.at (k := k) (by omega)
    have ih := W.frame k (by omega) t
    have hl := W.len k (by omega)
    simp only [acc, allE, if_true]
    rw [← ih, S.fr]
    unfold wrF
    rw [ho, hs]
    simp only
    cases hd : o.dst with
    | none => simp
    | some d =>
      simp only [Option.some.injEq, List.getD_eq_getElem?_getD, List.getElem?_set]
      by_cases hdt : d = t
      · subst hdt
        by_cases hlt : @LT.lt Nat _ d (fr k).length
        · rw [if_pos rfl, if_pos hlt, if_pos ⟨rfl, by rw [← hl]; exact hlt⟩]; simp
        · rw [if_pos rfl, if_neg hlt, if_neg (by rw [← hl]; simpa using hlt)]; simp
          rw [List.getElem?_eq_none (Nat.le_of_not_lt hlt)]; simp
      · rw [if_neg hdt, if_neg (by simp [hdt])]; simp
theorem Walk.heap (W : Walk P A cal ops ops fr h sts trs) : ∀ k, k ≤ ops.length → ∀ id, ent (h k) id = acc (wrH sts) (ent (h 0)) allE k id
  | 0, _, id => rfl
  | k + 1, hk, id => by
    obtain ⟨o, st, tr, ho, hs, ht, S, _⟩ := W.at (k := k) (by omega)
    have ih := W.heap k (by omega) id
    simp only [acc, allE, if_true]
    rw [S.heap, appl_lastW, ih]
    unfold wrH
    rw [hs]
theorem Walk.mono (W : Walk P A cal ops ops fr h sts trs) (i : Nat) : ∀ k, i ≤ k → k ≤ ops.length → (h i).length ≤ (h k).length
  | 0, hi, _ => by have : i = 0 := by omega
                   rw [this]; exact Nat.le_refl _
  | k + 1, hi, hk => by
    by_cases e : i = k + 1
    · rw [e]; exact Nat.le_refl _
    · obtain ⟨o, st, tr, ho, hs, ht, S, _⟩ := W.at (k := k) (by omega)
      exact Nat.le_trans (W.mono i k (by omega) (by omega)) S.grow
theorem Walk.news (W : Walk P A cal ops ops fr h sts trs) {i j id : Nat} {a b : Stp} (hi : sts[i]? = some a) (hj : sts[j]? = some b) (hij : i ≠ j) (h1 : id ∈ news a.l) : id ∉ Go.Ev.news b.l := by
  intro h2
  have li := (List.getElem?_eq_some_iff.1 hi).1
  have lj := (List.getElem?_eq_some_iff.1 hj).1
  have hl := W.1
  obtain ⟨_, a', _, _, ha, _, Si, _⟩ := W.at (k := i) (by omega)
  obtain ⟨_, b', _, _, hb, _, Sj, _⟩ := W.at (k := j) (by omega)
  rw [hi] at ha; cases ha
  rw [hj] at hb; cases hb
  have n1 := Si.news id h1
  have n2 := Sj.news id h2
  rcases Nat.lt_or_gt_of_ne hij with hlt | hlt
  · have := W.mono (i + 1) j (by omega) (by omega); omega
  · have := W.mono (j + 1) i (by omega) (by omega); omega

/-- two operations that may change places do not meet -/
theorem conf {E : Nat → Bool} (W : Walk P A cal ops ops fr h sts trs) (hb : bern ops trs = true) (hc : Closed ops E) {j : Nat} {o : Oper} {st : Stp} (ho : ops[j]? = some o) (hst : sts[j]? = some st) (hE : E j = false)
    (hdep : ∀ e ∈ o.after.toList, Region.binds .any e = true → E e.on = true) {i : Nat} {oi : Oper} {si : Stp} (hoi : ops[i]? = some oi) (hsi : sts[i]? = some si) (hij : (i < j ∧ E i = false) ∨ (j < i ∧ E i = true)) :
    (∀ d, oi.dst = some d → d ∉ looks ops o ∧ o.dst ≠ some d) ∧ (∀ id, id ∈ wrs si.l → id ∉ rds st.l ∧ id ∉ wrs st.l) := by
  have lj := (List.getElem?_eq_some_iff.1 ho).1
  have li := (List.getElem?_eq_some_iff.1 hoi).1
  obtain ⟨o', st', tj, ho', hst', htj, S, r1, r2⟩ := W.at lj
  rw [ho] at ho'; cases ho'
  rw [hst] at hst'; cases hst'
  obtain ⟨oi', si', ti, hoi', hsi', hti, Si, q1, q2⟩ := W.at li
  rw [hoi] at hoi'; cases hoi'
  rw [hsi] at hsi'; cases hsi'
  rcases hij with ⟨hlt, hEi⟩ | ⟨hlt, hEi⟩
  · rcases (bern_spec hb).2 i j oi o ti tj hlt hoi ho hti htj with ha | ha
    · have := anc_in hc j i ha fun o'' ho'' => by rw [ho] at ho''; cases ho''; exact hdep
      rw [hEi] at this; cases this
    · obtain ⟨a1, a2, a3, a4⟩ := apart_spec ha
      refine ⟨a1, fun id hid => ?_⟩
      obtain ⟨b1, b2⟩ := a3 id ((q2 id).2 hid)
      exact ⟨fun hh => b1 ((r1 id).2 hh), fun hh => b2 ((r2 id).2 hh)⟩
  · rcases (bern_spec hb).2 j i o oi tj ti hlt ho hoi htj hti with ha | ha
    · have := anc_in hc i j ha fun o'' ho'' e he hb' => hc i o'' hEi ho'' e he hb'
      rw [hE] at this; cases this
    · obtain ⟨a1, a2, a3, a4⟩ := apart_spec ha
      refine ⟨fun d hd => ⟨a2 d hd, fun hod => (a1 d hod).2 hd⟩, fun id hid => ?_⟩
      have h1 := (q2 id).2 hid
      exact ⟨fun hh => a4 id h1 ((r1 id).2 hh), fun hh => (a3 id ((r2 id).2 hh)).2 h1⟩
end

section
variable {P : Program} {A : Ann} {cal : Nat → List D → Option (List D)} {ops : Array Oper} {fr : Nat → List AV} {h : Nat → List Ent} {sts : List Stp} {trs : List (List Nat × List Nat)}
def frE (ops : List Oper) (sts : List Stp) (fr0 : List AV) (E : Nat → Bool) : List AV := (List.range fr0.length).map (acc (wrF ops sts fr0.length) (fun t => fr0.getD t .un) E ops.length)
def hpE (ops : List Oper) (sts : List Stp) (h0 : List Ent) (E : Nat → Bool) : Hp := acc (wrH sts) (ent h0) E ops.length
theorem frE_getD {ops : List Oper} {sts : List Stp} {fr0 : List AV} {E : Nat → Bool} {t : Nat} (ht : t < fr0.length) : (frE ops sts fr0 E).getD t .un = acc (wrF ops sts fr0.length) (fun t => fr0.getD t .un) E ops.length t := by
  simp [frE, ht]
structure At (w0 : World) (M : Nat → Nat → Prop) (ops : List Oper) (sts : List Stp) (fr0 : List AV) (h0 : List Ent) (top : Nat) (pn : List AV) (gv : List Value) (E : Nat → Bool) (a : Act) (w : World) (ρ : Env) : Prop where
  fr : RepVs ρ (frE ops sts fr0 E) a.tmps.toList
  pn : RepVs ρ pn gv
  inv : Inv w0 M ρ (hpE ops sts h0 E) w
  fresh : ∀ j st, E j = false → sts[j]? = some st → ∀ id ∈ news st.l, ρ id = none
  top : ∀ id, top ≤ id → ρ id = none
  calm : a.defers = []
theorem wpOp_of {P : Program} {ops : Array Oper} {Q : Exit → Act → World → Prop} {j : Nat} {o : Oper} (ho : ops[j]? = some o) {K : Act → World → Prop} {a : Act} {w : World}
    (h1 : Region.wanted o (yielded ops a.tmps) = true → o.wp P a w K Q) (h2 : Region.wanted o (yielded ops a.tmps) = false → K (a.put o.dst undef) w) : wpOp P ops Q j K a w := by
  unfold wpOp
  rw [ho]
  simp only
  split
  · rename_i hw; exact .inl (h1 hw)
  · rename_i hw; exact h2 (by simpa using hw)
theorem drawn_ok (G : Good P) (hcal : CalOk P A cal) {w0 : World} {M : Nat → Nat → Prop} {pn : List AV} {gv : List Value} {Q : Exit → Act → World → Prop} (W : Walk P A cal ops.toList ops.toList fr h sts trs) (hb : bern ops.toList trs = true)
    (hQ : ∀ ρ a w, StR w0 M ρ ⟨fr ops.size, pn, h ops.size⟩ gv a w → Q .normal a w) : ∀ (fuel : Nat) (listed : Array Bool) (a : Act) (w : World) (ρ : Env), listed.size = ops.size → cnt (fun i => listed.getD i false) ops.size ≤ fuel →
    Closed ops.toList (fun i => listed.getD i false) → At w0 M ops.toList sts (fr 0) (h 0) (h ops.size).length pn gv (fun i => listed.getD i false) a w ρ → wpAny P .any ops Q fuel listed a w := by
  have final : ∀ (listed : Array Bool) (a : Act) (w : World) (ρ : Env), (∀ i, i < ops.size → listed.getD i false = true) → At w0 M ops.toList sts (fr 0) (h 0) (h ops.size).length pn gv (fun i => listed.getD i false) a w ρ → Q .normal a w := by
    intro listed a w ρ hall J
    refine hQ ρ a w ⟨?_, J.pn, ?_, J.top, J.calm⟩
    · have e : frE ops.toList sts (fr 0) (fun i => listed.getD i false) = fr ops.size := by
        have hl := W.len ops.size (by simp)
        apply List.ext_getElem?
        intro t
        by_cases ht : t < (fr 0).length
        · have h1 := W.frame ops.size (by simp) t
          rw [← acc_pre (j := ops.size) _ _ (fun i hi _ => hall i hi) ops.size (Nat.le_refl _)] at h1
          simp only [frE, List.getElem?_map, List.getElem?_range ht, Option.map_some, Array.length_toList]
          rw [← h1, List.getElem?_eq_getElem (by omega)]
          simp [List.getD_eq_getElem?_getD, hl, ht]
        · rw [List.getElem?_eq_none (by simp [frE]; omega), List.getElem?_eq_none (by omega)]
      rw [← e]; exact J.fr
    · have e : hpE ops.toList sts (h 0) (fun i => listed.getD i false) = ent (h ops.size) := by
        funext id
        rw [W.heap ops.size (by simp) id, ← acc_pre (j := ops.size) _ _ (fun i hi _ => hall i hi) ops.size (Nat.le_refl _)]
        simp [hpE]
      have := J.inv
      rw [e] at this
      exact this
  intro fuel
  induction fuel with
  | zero =>
    intro listed a w ρ hsz hcnt hcl J
    have hall := cnt_zero (Nat.le_zero.1 hcnt)
    refine ⟨?_, final listed a w ρ hall J⟩
    rw [List.eq_nil_iff_forall_not_mem]
    intro i hi
    rw [mem_ready] at hi
    obtain ⟨h1, o, ho, _⟩ := hi
    have hlt := (Array.getElem?_eq_some_iff.1 ho).1
    have := hall i hlt
    simp only [Array.getD_eq_getD_getElem?, Array.getElem?_eq_getElem (show i < listed.size by omega), Option.getD_some] at this h1
    rw [this] at h1; cases h1
  | succ fuel ih =>
    intro listed a w ρ hsz hcnt hcl J
    refine ⟨fun hr => ?_, fun j hj => ?_⟩
    · refine final listed a w ρ ?_ J
      intro i
      induction i using Nat.strongRecOn with
      | _ i ih2 =>
        intro hi
        cases hE : listed.getD i false with
        | true => rfl
        | false =>
          exfalso
          have hmem : i ∈ Region.ready .any ops listed := by
            rw [mem_ready]
            refine ⟨?_, ops[i], Array.getElem?_eq_getElem hi, fun e he hb' => ?_⟩
            · simp only [Array.getD_eq_getD_getElem?, Array.getElem?_eq_getElem (show i < listed.size by omega), Option.getD_some] at hE ⊢
              exact hE
            · have := (bern_spec hb).1 i ops[i] (by simp [hi]) e (by simpa using he) hb'
              exact ih2 e.on this (by omega)
          rw [hr] at hmem; cases hmem
    · rw [mem_ready] at hj
      obtain ⟨hjl, o, ho, hdeps⟩ := hj
      have hlt := (Array.getElem?_eq_some_iff.1 ho).1
      have hlt' : j < ops.toList.length := by simpa using hlt
      have hoL : ops.toList[j]? = some o := by simpa using ho
      have hE : listed.getD j false = false := by
        simp only [Array.getD_eq_getD_getElem?, Array.getElem?_eq_getElem (show j < listed.size by omega), Option.getD_some] at hjl ⊢
        exact hjl
      have hdep : ∀ e ∈ o.after.toList, Region.binds .any e = true → listed.getD e.on false = true := fun e he hb' => hdeps e (by simpa using he) hb'
      obtain ⟨o', st, t, ho', hst, ht, S, r1, r2⟩ := W.at hlt'
      rw [hoL] at ho'; cases ho'
      have hadd : (fun i => (listed.setIfInBounds j true).getD i false) = Go.Ev.add (fun i => listed.getD i false) j := by
        funext i
        simp only [Go.Ev.add]
        by_cases hij : i = j
        · subst hij
          simp [show i < listed.size by omega]
        · rw [if_neg hij, getD_set_ne false (Ne.symm hij)]
      have cf : ∀ {i : Nat} {oi : Oper} {si : Stp}, ops.toList[i]? = some oi → sts[i]? = some si → ((i < j ∧ listed.getD i false = false) ∨ (j < i ∧ listed.getD i false = true)) →
          (∀ d, oi.dst = some d → d ∉ looks ops.toList o ∧ o.dst ≠ some d) ∧ (∀ id, id ∈ wrs si.l → id ∉ rds st.l ∧ id ∉ wrs st.l) :=
        fun h1 h2 h3 => conf (E := fun i => listed.getD i false) W hb hcl hoL hst hE hdep h1 h2 h3
      have stOf : ∀ i oi, ops.toList[i]? = some oi → ∃ si, sts[i]? = some si := fun i oi hi => by
        have := (List.getElem?_eq_some_iff.1 hi).1
        exact ⟨_, List.getElem?_eq_getElem (by rw [W.1]; exact this)⟩
      have opOf : ∀ i si, sts[i]? = some si → ∃ oi, ops.toList[i]? = some oi := fun i oi hi => by
        have := (List.getElem?_eq_some_iff.1 hi).1
        exact ⟨_, List.getElem?_eq_getElem (by rw [← W.1]; exact this)⟩
      have frAt : ∀ d, d ∈ looks ops.toList o → (frE ops.toList sts (fr 0) (fun i => listed.getD i false)).getD d .un = (fr j).getD d .un := by
        intro d hd
        by_cases hdl : d < (fr 0).length
        · rw [frE_getD hdl, W.frame j (by omega) d]
          refine acc_at _ _ (E := fun i => listed.getD i false) (loc := d) hE (by omega) (fun i hi hw => ?_) (fun i hi hw => ?_)
          · obtain ⟨oi, hoi, hdi, _⟩ := wrF_some hw
            obtain ⟨si, hsi⟩ := stOf i oi hoi
            cases hEi : listed.getD i false with
            | true => rfl
            | false => exact absurd hd ((cf hoi hsi (.inl ⟨hi, hEi⟩)).1 d hdi).1
          · obtain ⟨oi, hoi, hdi, _⟩ := wrF_some hw
            obtain ⟨si, hsi⟩ := stOf i oi hoi
            cases hEi : listed.getD i false with
            | false => rfl
            | true => exact absurd hd ((cf hoi hsi (.inr ⟨hi, hEi⟩)).1 d hdi).1
        · have e1 : (fr j).length = (fr 0).length := W.len j (by omega)
          simp only [List.getD_eq_getElem?_getD]
          rw [List.getElem?_eq_none (by simp [frE]; omega), List.getElem?_eq_none (by omega)]
      have hpAt : ∀ id, id ∈ rds st.l ∨ id ∈ wrs st.l → hpE ops.toList sts (h 0) (fun i => listed.getD i false) id = ent (h j) id := by
        intro id hid
        rw [W.heap j (by omega) id]
        refine acc_at _ _ (E := fun i => listed.getD i false) (loc := id) hE (by omega) (fun i hi hw => ?_) (fun i hi hw => ?_)
        · obtain ⟨si, hsi, hmem⟩ := wrH_some hw
          obtain ⟨oi, hoi⟩ := opOf i si hsi
          cases hEi : listed.getD i false with
          | true => rfl
          | false =>
            have := (cf hoi hsi (.inl ⟨hi, hEi⟩)).2 id hmem
            rcases hid with hid | hid
            · exact absurd hid this.1
            · exact absurd hid this.2
        · obtain ⟨si, hsi, hmem⟩ := wrH_some hw
          obtain ⟨oi, hoi⟩ := opOf i si hsi
          cases hEi : listed.getD i false with
          | false => rfl
          | true =>
            have := (cf hoi hsi (.inr ⟨hi, hEi⟩)).2 id hmem
            rcases hid with hid | hid
            · exact absurd hid this.1
            · exact absurd hid this.2
      have hpAdd : hpE ops.toList sts (h 0) (Go.Ev.add (fun i => listed.getD i false) j) = appl st.l (hpE ops.toList sts (h 0) (fun i => listed.getD i false)) := by
        funext id
        rw [appl_lastW]
        have := acc_add (wrH sts) (ent (h 0)) (E := fun i => listed.getD i false) (j := j) (loc := id) hE (fun hw i hi hwi => ?_) ops.toList.length hlt'
        · simp only [hpE]
          rw [this]
          unfold wrH
          rw [hst]
        · obtain ⟨sj, hsj, hm⟩ := wrH_some hw
          rw [hst] at hsj; cases hsj
          obtain ⟨si, hsi, hmem⟩ := wrH_some hwi
          obtain ⟨oi, hoi⟩ := opOf i si hsi
          cases hEi : listed.getD i false with
          | false => rfl
          | true => exact absurd hm ((cf hoi hsi (.inr ⟨hi, hEi⟩)).2 id hmem).2
      have frAdd : frE ops.toList sts (fr 0) (Go.Ev.add (fun i => listed.getD i false) j) = (match o.dst with | some d => (frE ops.toList sts (fr 0) (fun i => listed.getD i false)).set d st.v | none => frE ops.toList sts (fr 0) (fun i => listed.getD i false)) := by
        apply List.ext_getElem?
        intro d
        by_cases hdl : d < (fr 0).length
        · have key := acc_add (wrF ops.toList sts (fr 0).length) (fun t => (fr 0).getD t .un) (E := fun i => listed.getD i false) (j := j) (loc := d) hE (fun hw i hi hwi => ?_) ops.toList.length hlt'
          · have e1 : (frE ops.toList sts (fr 0) (Go.Ev.add (fun i => listed.getD i false) j))[d]? = some (acc (wrF ops.toList sts (fr 0).length) (fun t => (fr 0).getD t .un) (Go.Ev.add (fun i => listed.getD i false) j) ops.toList.length d) := by
              simp [frE, hdl]
            have e2 : (frE ops.toList sts (fr 0) (fun i => listed.getD i false))[d]? = some (acc (wrF ops.toList sts (fr 0).length) (fun t => (fr 0).getD t .un) (fun i => listed.getD i false) ops.toList.length d) := by
              simp [frE, hdl]
            rw [e1, key]
            unfold wrF
            rw [hoL, hst]
            simp only
            cases hd : o.dst with
            | none => simp only [reduceCtorEq, false_and, if_false, Option.getD_none]; rw [e2]; rfl
            | some d' =>
              simp only [Option.some.injEq]
              rw [List.getElem?_set]
              by_cases hdd : d' = d
              · subst hdd
                rw [if_pos ⟨rfl, hdl⟩, if_pos rfl, if_pos (by simp [frE, hdl])]
                rfl
              · rw [if_neg (by simp [hdd]), if_neg hdd, e2]
                rfl
          · obtain ⟨oj, hoj, hdj, _⟩ := wrF_some hw
            rw [hoL] at hoj; cases hoj
            obtain ⟨oi, hoi, hdi, _⟩ := wrF_some hwi
            obtain ⟨si, hsi⟩ := stOf i oi hoi
            cases hEi : listed.getD i false with
            | false => rfl
            | true => exact absurd hdj ((cf hoi hsi (.inr ⟨hi, hEi⟩)).1 d hdi).2
        · rw [List.getElem?_eq_none (by simp [frE]; omega)]
          cases o.dst with
          | none => simp only; rw [List.getElem?_eq_none (by simp [frE]; omega)]
          | some d' => simp only; rw [List.getElem?_eq_none (by simp [frE]; omega)]
      have hcl' : Closed ops.toList (fun i => (listed.setIfInBounds j true).getD i false) := by
        rw [hadd]
        intro i oi hEi hoi e he hb'
        simp only [Go.Ev.add] at hEi ⊢
        by_cases hij : i = j
        · subst hij
          rw [hoL] at hoi; cases hoi
          have := hdep e he hb'
          split
          · rfl
          · exact this
        · rw [if_neg hij] at hEi
          have := hcl i oi hEi hoi e he hb'
          split
          · rfl
          · exact this
      have hcnt' : cnt (fun i => (listed.setIfInBounds j true).getD i false) ops.size ≤ fuel := by
        rw [hadd]
        have := (cnt_add (E := fun i => listed.getD i false) hE ops.size).1 hlt
        omega
      have next : ∀ vv w' ρ', Inv w0 M ρ' (appl st.l (hpE ops.toList sts (h 0) (fun i => listed.getD i false))) w' → Sub ρ ρ' → (∀ id, id ∉ Go.Ev.news st.l → ρ' id = ρ id) → RepV ρ' st.v vv →
          wpAny P .any ops Q fuel (listed.setIfInBounds j true) (a.put o.dst vv) w' := by
        intro vv w' ρ' k1 k2 k3 k4
        refine ih _ _ _ ρ' (by simp [hsz]) hcnt' hcl' ⟨?_, J.pn.mono k2 _ _, ?_, ?_, ?_, ?_⟩
        · rw [hadd, frAdd]
          have hf := J.fr.mono k2 _ _
          cases hd : o.dst with
          | none => exact hf
          | some d => simpa [Act.put] using hf.set d k4
        · rw [hadd, hpAdd]; exact k1
        · intro i si hEi hsi id hid
          rw [show (listed.setIfInBounds j true).getD i false = _ from congrFun hadd i] at hEi
          have hij : i ≠ j := by rintro rfl; simp [Go.Ev.add] at hEi
          have hEi' : listed.getD i false = false := by simpa [Go.Ev.add, hij] using hEi
          rw [k3 id (W.news hsi hst hij hid)]
          exact J.fresh i si hEi' hsi id hid
        · intro id hid
          have hne : id ∉ Go.Ev.news st.l := fun hm => by
            have := (S.news id hm).2
            have := W.mono (j + 1) ops.size (by omega) (by simp)
            omega
          rw [k3 id hne]; exact J.top id hid
        · cases o.dst <;> exact J.calm
      have hwant : Region.wanted o (yielded ops a.tmps) = st.ran := by
        have hm := S.meets
        unfold Meets at hm
        unfold Region.wanted
        split at hm
        · rename_i hg; rw [hg, hm]
        · rename_i g want hg
          rcases hm with ⟨t', c, h1, h2, h3⟩ | ⟨t', h1, h2, h3⟩
          · have hlk : t' ∈ looks ops.toList o := by
              unfold looks
              rw [hg]
              exact List.mem_append_right _ (by simp only [h1, Option.toList_some, List.mem_singleton])
            have hfr := frAt t' hlk
            rw [h2] at hfr
            have := yielded_of (ops := ops) J.fr h1 hfr
            rw [hg, h3]
            simp only [this]
            cases c <;> cases want <;> rfl
          · have hlk : t' ∈ looks ops.toList o := by
              unfold looks
              rw [hg]
              exact List.mem_append_right _ (by simp only [h1, Option.toList_some, List.mem_singleton])
            have hfr := frAt t' hlk
            rw [h2] at hfr
            have := yielded_none (ops := ops) J.fr h1 hfr
            rw [hg, h3]
            simp only [this]
            cases want <;> rfl
      refine wpOp_of ho (fun hw => ?_) (fun hw => ?_)
      · rw [hwant] at hw
        have hcongr : stepP P A o (frE ops.toList sts (fr 0) (fun i => listed.getD i false)) = stepP P A o (fr j) := by
          refine stepP_congr fun x hx => ?_
          cases x with
          | tmp d => exact frAt d (List.mem_append_left _ (List.mem_filterMap.2 ⟨.tmp d, by simpa using hx, rfl⟩))
          | _ => rfl
        have Si : Sit cal (stepP P A o (frE ops.toList sts (fr 0) (fun i => listed.getD i false))) st.l st.v w0 M ρ (hpE ops.toList sts (h 0) (fun i => listed.getD i false)) w :=
          ⟨by rw [hcongr]; exact S.did hw, S.cons.congr hpAt, J.fresh j st hE hst, S.nodup, J.inv⟩
        exact sit_wp G hcal Si J.fr fun vv w' F => by
          obtain ⟨ρ', k1, k2, k3, k4⟩ := F
          exact next vv w' ρ' k1 k2 k3 k4
      · rw [hwant] at hw
        obtain ⟨e1, e2⟩ := S.idle hw
        refine next undef w ρ ?_ (Sub.refl ρ) (fun _ _ => rfl) (by rw [e2]; simp only [RepV]; exact ⟨#[], rfl, by simp [RepVs]⟩)
        rw [e1]; exact J.inv
end
end Go.Ev
