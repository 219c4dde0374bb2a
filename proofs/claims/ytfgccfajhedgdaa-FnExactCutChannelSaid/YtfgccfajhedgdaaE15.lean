/- The evaluator: a call by its contract. -/
import Derived.Test.YtfgccfajhedgdaaE14
namespace Go.Ev
set_option linter.unusedSimpArgs false
set_option linter.unusedVariables false
set_option linter.unnecessarySimpa false
open Go Go.RowKit
mutual
theorem Gat0.still {g : Hp} : ∀ (c : AV) {d : D} {q : Met}, Gat0 g false c d q → ownL q = []
  | .int _ _, d, q, h => by simp only [Gat0] at h; rw [h.2]; rfl
  | .bool _, d, q, h => by simp only [Gat0] at h; rw [h.2]; rfl
  | .str _, d, q, h => by simp only [Gat0] at h; rw [h.2]; rfl
  | .un, d, q, h => by simp only [Gat0] at h
  | .nils, d, q, h => by simp only [Gat0] at h
  | .ptr _ _ _, d, q, h => by simp only [Gat0] at h
  | .tup _, d, q, h => by simp only [Gat0] at h
  | .sl id none, d, q, h => by simp only [Gat0] at h; obtain ⟨_, _, _, _, _, rfl⟩ := h; rfl
  | .sl id (some (o, n)), d, q, h => by simp only [Gat0] at h; obtain ⟨_, _, _, _, _, _, rfl⟩ := h; rfl
  | .agg cs, d, q, h => by simp only [Gat0] at h; obtain ⟨_, _, h⟩ := h; exact Gats0.still cs h
  | .fn f cs, d, q, h => by simp only [Gat0] at h; obtain ⟨_, _, h⟩ := h; exact Gats0.still cs h
theorem Gats0.still {g : Hp} : ∀ (cs : List AV) {ds : List D} {q : Met}, Gats0 g false cs ds q → ownL q = []
  | [], ds, q, h => by simp only [Gats0] at h; rw [h.2]; rfl
  | c :: cs, ds, q, h => by
    simp only [Gats0] at h
    obtain ⟨d, l, q1, q2, hd, rfl, h1, h2⟩ := h
    rw [ownL_append, Gat0.still c h1, Gats0.still cs h2]; rfl
end
mutual
theorem Gat.still {g : Hp} : ∀ (n : Option Nat) (c : AV) {d : D} {q : Met}, Gat g false n c d q → ownL q = []
  | n, .int _ _, d, q, h => Gat0.still _ (by simpa only [Gat] using h)
  | n, .bool _, d, q, h => Gat0.still _ (by simpa only [Gat] using h)
  | n, .str _, d, q, h => Gat0.still _ (by simpa only [Gat] using h)
  | n, .un, d, q, h => Gat0.still _ (by simpa only [Gat] using h)
  | n, .nils, d, q, h => Gat0.still _ (by simpa only [Gat] using h)
  | n, .tup _, d, q, h => Gat0.still _ (by simpa only [Gat] using h)
  | n, .sl _ _, d, q, h => Gat0.still _ (by simpa only [Gat] using h)
  | n, .ptr id i o, d, q, h => by
    simp only [Gat] at h
    obtain ⟨own, cs, l, q1, hi, hg, hm, h1, hd, rfl⟩ := h
    rw [ownL_append, Gats0.still _ h1]; rfl
  | n, .agg cs, d, q, h => by simp only [Gat] at h; obtain ⟨_, _, h⟩ := h; exact Gats.still cs h
  | n, .fn f cs, d, q, h => by simp only [Gat] at h; obtain ⟨_, _, h⟩ := h; exact Gats.still cs h
theorem Gats.still {g : Hp} : ∀ (cs : List AV) {ds : List D} {q : Met}, Gats g false cs ds q → ownL q = []
  | [], ds, q, h => by simp only [Gats] at h; rw [h.2]; rfl
  | c :: cs, ds, q, h => by
    simp only [Gats] at h
    obtain ⟨d, l, q1, q2, hd, rfl, h1, h2⟩ := h
    rw [ownL_append, Gat.still none c h1, Gats.still cs h2]; rfl
end
section
variable {cal : Nat → List D → Option (List D)} {α : Type} {u : α} {w0 : World} {M : Nat → Nat → Prop} {w w' : World}
theorem scatArgs_ok : ∀ (ms : List Bool) (ns : List (Option Nat)) (cs : List AV) {d0 rs' rs : List D} {j : Nat} {q : Met} {vs : List Value} {F1 F : Feet} {S : List Nat} {K : Prog α} {l : List Ac} {ρ : Env} {g : Hp}, GatA g ms ns cs d0 q → rs.drop j = rs' → alikes (muts ms d0) rs' = true →
    RepDs w' rs' (muts ms vs) F1 → Ros w w' (muts ms d0) (muts ms vs) → RepVs ρ cs vs → sepIds q = true → Old ρ g q w → Pend false w0 M ρ g (ownL q ++ S) (F1 ++ F) w' → Sit0 cal (scatArgs rs ms cs j K) l u ρ g →
    Onto cal K (ownL q) S F (fun _ => True) l u w0 M ρ g w'
  | ms, ns, [], d0, rs', rs, j, q, vs, F1, F, S, K, l, ρ, g, hg, hd, ha, hr, hro, hv, hs, ho, hp, hS => by
    simp only [GatA] at hg
    obtain ⟨rfl, rfl⟩ := hg
    simp only [RepVs] at hv
    subst hv
    simp only [muts, RepDs] at ha hr
    cases rs' with
    | cons _ _ => simp [alikes] at ha
    | nil =>
      simp only [RepDs] at hr
      obtain ⟨_, rfl⟩ := hr
      exact Onto.here (by simpa only [scatArgs] using hS) hp trivial
  | ms, ns, c :: cs, d0, rs', rs, j, q, vs, F1, F, S, K, l, ρ, g, hg, hd, ha, hr, hro, hv, hs, ho, hp, hS => by
    simp only [GatA] at hg
    obtain ⟨e0, l0, q1, q2, rfl, rfl, hg1, hg2⟩ := hg
    simp only [RepVs] at hv
    obtain ⟨x, us, rfl, hv1, hv2⟩ := hv
    obtain ⟨hs1, hs2, hs3⟩ := sepIds_append hs
    simp only [muts] at ha hr hro
    simp only [scatArgs] at hS
    cases hm : ms.headD false with
    | false =>
      rw [hm] at ha hr hro hS hg1
      simp only [Bool.false_eq_true, if_false] at ha hr hro hS
      have hq1 := Gat.still _ c hg1
      have := scatArgs_ok ms.tail ns.tail cs (j := j) (rs := rs) (F := F) (S := S) hg2 hd ha hr hro hv2 hs2 (fun y hy => ho y (by simp [hy])) (by rw [ownL_append, hq1] at hp; exact hp) hS
      rw [ownL_append, hq1]
      exact this
    | true =>
      rw [hm] at ha hr hro hS hg1
      simp only [if_true] at ha hr hro hS
      cases rs' with
      | nil => simp [alikes] at ha
      | cons e es =>
        simp only [alikes, Bool.and_eq_true] at ha
        simp only [RepDs] at hr
        obtain ⟨x', us', G1, G2, he, rfl, hr1, hr2⟩ := hr
        cases he
        simp only [Ros] at hro
        obtain ⟨ro1, ro2⟩ := hro x _ rfl
        have hce : nth rs j = e := by
          unfold nth
          have := congrArg (fun l => l.getD 0 (.bool false)) hd
          simpa using this
        rw [hce] at hS
        obtain ⟨l1, g1, ρ1, S1, p1, sub1, same1, y1, fin1⟩ := scat_ok c (S := ownL q2 ++ S) (F := G2 ++ F) hg1 ha.1 hr1 ro1 hv1 hs1 (fun y hy => ho y (by simp [hy])) (by simpa [ownL_append] using hp) hS
        have hsm : ∀ y ∈ q2, g1 y.1 = g y.1 := fun y hy => same1 y.1 (ho.ne y (by simp [hy])) fun hm => hs3 _ (mem_ownL.1 hm) y hy (.inl rfl) rfl
        have hd' : rs.drop (j + 1) = es := by
          have := congrArg List.tail hd
          simpa using this
        obtain ⟨l2, g2, ρ2, S2, p2, sub2, same2, y2, fin2⟩ := scatArgs_ok ms.tail ns.tail cs (j := j + 1) (rs := rs) (F := F) (GatA.congr _ _ cs hg2 hsm) hd' ha.2 hr2 ro2 (hv2.mono sub1 _ _) hs2
          (fun y hy => by obtain ⟨p, h1, h2⟩ := ho y (by simp [hy]); exact ⟨p, sub1 _ _ h1, by rw [hsm y hy]; exact h2.mono sub1⟩) p1 S1
        refine ⟨l2, g2, ρ2, S2, p2, sub1.trans sub2, fun i hi hn => ?_, trivial, fun X h => fin1 X (fin2 X h)⟩
        rw [ownL_append, List.mem_append, not_or] at hn
        rw [same2 i (sub1.ne hi) hn.2, same1 i hi hn.1]

/-! results -/
theorem wrapC_ok {c : CTy} {d : D} {v : Value} {F1 F : Feet} {S : List Nat} {K : AV → Prog α} {l : List Ac} {ρ : Env} {g : Hp} (hk : okC c d = true) (hr : RepD w' d v F1) (hp : Pend false w0 M ρ g S (F1 ++ F) w') (hS : Sit0 cal (wrapC c d K) l u ρ g) :
    ∃ c', Onto cal (K c') [] S F (fun ρ' => RepV ρ' c' v) l u w0 M ρ g w' := by
  have arrCase : ∀ (e : ETy) nil a, d = .arr true nil a → e.like d = a → Sit0 cal (.new (.arr true d.nil (e.like d)) fun id => K (.sl id none)) l u ρ g → ∃ c', Onto cal (K c') [] S F (fun ρ' => RepV ρ' c' v) l u w0 M ρ g w' := by
    intro e nil a hd hl hS
    subst hd
    rw [hl] at hS
    simp only [RepD] at hr
    obtain ⟨p, rfl, hre, rfl⟩ := hr
    have S0 := hS.new; clear hS; obtain ⟨id, l1, rfl, hid, hdd, hS⟩ := S0
    have hp1 := Pend.new (A := (true, foot p (.arr true nil a))) (F := F) (by simpa using hp) (id := id) (p := p) (e := .arr true nil a) hid hre rfl (.inr rfl) (fun _ _ h => h)
    refine ⟨_, l1, _, _, hS p, hp1, sub_updρ hid, fun i hi hn => ?_, ?_, fun X h => Fin.new hid h⟩
    · have h1 : i ≠ id := by rintro rfl; exact hi hid
      exact upd_other _ _ h1
    · simp only [RepV]; exact ⟨p, updρ_same _ _ _, rfl⟩
  cases c with
  | int k =>
    cases d <;> simp only [okC, Bool.false_eq_true] at hk
    simp only [beq_iff_eq] at hk
    subst hk
    simp only [RepD] at hr
    obtain ⟨rfl, rfl⟩ := hr
    exact ⟨_, Onto.here (by simpa only [wrapC] using hS) hp (by simp [RepV, D.toInt])⟩
  | bool =>
    cases d <;> simp only [okC, Bool.false_eq_true] at hk
    simp only [RepD] at hr
    obtain ⟨rfl, rfl⟩ := hr
    exact ⟨_, Onto.here (by simpa only [wrapC] using hS) hp (by simp [RepV, D.toBool])⟩
  | str =>
    cases d <;> simp only [okC, Bool.false_eq_true] at hk
    simp only [RepD] at hr
    obtain ⟨rfl, rfl⟩ := hr
    exact ⟨_, Onto.here (by simpa only [wrapC] using hS) hp (by simp [RepV, D.toStr])⟩
  | sl e =>
    simp only [wrapC] at hS
    cases e with
    | int k =>
      match d, hk with
      | .arr true nil (.ints k' l'), hk =>
        simp only [okC, beq_iff_eq] at hk
        subst hk
        exact arrCase _ nil _ rfl (by simp [ETy.like, ETy.arr, Arr.like, D.ints]) hS
    | bool =>
      match d, hk with
      | .arr true nil (.bools l'), hk => exact arrCase _ nil _ rfl (by simp [ETy.like, ETy.arr, Arr.like, D.bools]) hS
    | str =>
      match d, hk with
      | .arr true nil (.strs l'), hk => exact arrCase _ nil _ rfl (by simp [ETy.like, ETy.arr, Arr.like, D.strs]) hS
    | r3 =>
      match d, hk with
      | .arr true nil (.r3 l'), hk => exact arrCase _ nil _ rfl (by simp [ETy.like, ETy.arr, Arr.like, D.r3]) hS
    | r4 =>
      match d, hk with
      | .arr true nil (.r4 l'), hk => exact arrCase _ nil _ rfl (by simp [ETy.like, ETy.arr, Arr.like, D.r4]) hS
    | other => cases d <;> simp [okC] at hk
  | ptr => simp only [wrapC] at hS; exact hS.fail
  | fn => simp only [wrapC] at hS; exact hS.fail
  | other => simp only [wrapC] at hS; exact hS.fail
theorem wrapCs_ok : ∀ (cs : List CTy) {d : D} {j : Nat} {ds : List D} {vs : List Value} {F1 F : Feet} {S : List Nat} {K : List AV → Prog α} {l : List Ac} {ρ : Env} {g : Hp}, okCs cs ds = true → (∀ i, d.cell (j + i) = ds.getD i (.bool false)) → RepDs w' ds vs F1 →
    Pend false w0 M ρ g S (F1 ++ F) w' → Sit0 cal (wrapCs cs d j K) l u ρ g → ∃ cs', Onto cal (K cs') [] S F (fun ρ' => RepVs ρ' cs' vs) l u w0 M ρ g w'
  | [], d, j, ds, vs, F1, F, S, K, l, ρ, g, hk, hc, hr, hp, hS => by
    cases ds with
    | cons _ _ => simp [okCs] at hk
    | nil =>
      simp only [RepDs] at hr
      obtain ⟨rfl, rfl⟩ := hr
      exact ⟨[], Onto.here (by simpa only [wrapCs] using hS) hp (by simp [RepVs])⟩
  | c :: cs, d, j, ds, vs, F1, F, S, K, l, ρ, g, hk, hc, hr, hp, hS => by
    cases ds with
    | nil => simp [okCs] at hk
    | cons e ds =>
      simp only [okCs, Bool.and_eq_true] at hk
      simp only [RepDs] at hr
      obtain ⟨x, us, G1, G2, rfl, rfl, hr1, hr2⟩ := hr
      simp only [wrapCs] at hS
      have hce : d.cell j = e := by simpa using hc 0
      rw [hce] at hS
      obtain ⟨c', l1, g1, ρ1, S1, p1, sub1, same1, y1, fin1⟩ := wrapC_ok (F := G2 ++ F) hk.1 hr1 (by simpa using hp) hS
      obtain ⟨cs', l2, g2, ρ2, S2, p2, sub2, same2, y2, fin2⟩ := wrapCs_ok cs (d := d) (j := j + 1) (F := F) hk.2 (fun i => by have := hc (i + 1); rw [show j + 1 + i = j + (i + 1) by omega, this]; simp) hr2 p1 S1
      refine ⟨c' :: cs', l2, g2, ρ2, S2, p2, sub1.trans sub2, fun i hi hn => ?_, RepVs.cons (y1.mono sub2 _ _) y2, fun X h => fin1 X (fin2 X h)⟩
      rw [same2 i (sub1.ne hi) (by simp), same1 i hi (by simp)]
theorem wrapT_ok {P : Program} {t : TypeId} {d : D} {v : Value} {F1 F : Feet} {S : List Nat} {K : AV → Prog α} {l : List Ac} {ρ : Env} {g : Hp} (hk : okT P t d = true) (hr : RepD w' d v F1) (hp : Pend false w0 M ρ g S (F1 ++ F) w') (hS : Sit0 cal (wrapT P t d K) l u ρ g) :
    ∃ c', Onto cal (K c') [] S F (fun ρ' => RepV ρ' c' v) l u w0 M ρ g w' := by
  unfold okT at hk
  unfold wrapT at hS
  split at hS
  · rename_i hagg
    rw [if_pos hagg] at hk
    cases d <;> simp only [Bool.false_eq_true] at hk
    rename_i ds
    simp only [RepD] at hr
    obtain ⟨vs, rfl, hr⟩ := hr
    obtain ⟨cs', l2, g2, ρ2, S2, p2, sub2, same2, y2, fin2⟩ := wrapCs_ok _ (d := .agg ds) (j := 0) hk (fun i => by simp [D.cell]) hr hp hS
    exact ⟨_, l2, g2, ρ2, S2, p2, sub2, same2, by simp only [RepV]; exact ⟨_, rfl, y2⟩, fin2⟩
  · rename_i hagg
    rw [if_neg hagg] at hk
    split at hS
    · rename_i c hc
      rw [hc] at hk
      exact wrapC_ok hk hr hp hS
    · exact hS.fail
theorem wrapTs_ok {P : Program} {rs : List D} : ∀ (ts : List TypeId) {j : Nat} {ds : List D} {vs us : List Value} {F1 : Feet} {S : List Nat} {K : List AV → Prog α} {l : List Ac} {ρ : Env} {g : Hp}, rs.drop j = ds → okTs P ts ds = true → vs.length = ts.length → RepDs w' ds (vs ++ us) F1 →
    Pend false w0 M ρ g S F1 w' → Sit0 cal (wrapTs P rs ts j K) l u ρ g → ∃ cs' F2, Onto cal (K cs') [] S F2 (fun ρ' => RepVs ρ' cs' vs ∧ RepDs w' (ds.drop ts.length) us F2) l u w0 M ρ g w'
  | [], j, ds, vs, us, F1, S, K, l, ρ, g, hd, hk, hl, hr, hp, hS => by
    have : vs = [] := List.eq_nil_of_length_eq_zero hl
    subst this
    exact ⟨[], F1, Onto.here (by simpa only [wrapTs] using hS) hp ⟨by simp [RepVs], by simpa using hr⟩⟩
  | t :: ts, j, ds, vs, us, F1, S, K, l, ρ, g, hd, hk, hl, hr, hp, hS => by
    cases ds with
    | nil => simp [okTs] at hk
    | cons e es =>
      cases vs with
      | nil => simp at hl
      | cons x xs =>
        simp only [okTs, Bool.and_eq_true] at hk
        simp only [List.cons_append, RepDs] at hr
        obtain ⟨x', us', G1, G2, he, rfl, hr1, hr2⟩ := hr
        cases he
        have hce : nth rs j = e := by
          unfold nth
          have := congrArg (fun l => l.getD 0 (.bool false)) hd
          simpa using this
        have hd' : rs.drop (j + 1) = es := by
          have := congrArg List.tail hd
          simpa using this
        simp only [wrapTs] at hS
        rw [hce] at hS
        obtain ⟨c', l1, g1, ρ1, S1, p1, sub1, same1, y1, fin1⟩ := wrapT_ok hk.1 hr1 hp hS
        obtain ⟨cs', F2, l2, g2, ρ2, S2, p2, sub2, same2, ⟨y2, y3⟩, fin2⟩ := wrapTs_ok ts hd' hk.2 (by simpa using hl) hr2 p1 S1
        refine ⟨c' :: cs', F2, l2, g2, ρ2, S2, p2, sub1.trans sub2, fun i hi hn => ?_, ⟨RepVs.cons (y1.mono sub2 _ _) y2, by simpa using y3⟩, fun X h => fin1 X (fin2 X h)⟩
        rw [same2 i (sub1.ne hi) (by simp), same1 i hi (by simp)]
theorem retV_rep {ρ : Env} {cs : List AV} {vs : List Value} (h : RepVs ρ cs vs) : RepV ρ (retV cs) (retVal vs) := by
  cases cs with
  | nil => simp only [RepVs] at h; subst h; simp [retV, retVal, RepV, RepVs]
  | cons c cs =>
    simp only [RepVs] at h
    obtain ⟨v, vs, rfl, h1, h2⟩ := h
    cases cs with
    | nil => simp only [RepVs] at h2; subst h2; simpa [retV, retVal] using h1
    | cons c2 cs =>
      simp only [RepVs] at h2
      obtain ⟨v2, vs, rfl, h3, h4⟩ := h2
      simp only [retV, retVal, RepV]
      exact ⟨_, rfl, by simpa using RepVs.cons h1 (RepVs.cons h3 h4)⟩

/-- what was met, and the world behind a call that turned it -/
theorem Match.mem {ρ : Env} {g : Hp} {q : Met} {F : Feet} (h : Match ρ g q F) : ∀ A ∈ F, A.1 = true → ∃ id p, (id, true) ∈ q ∧ (g id).own = true ∧ ρ id = some p ∧ ∀ b off, A.2 b off → foot p (g id) b off := by
  unfold Match at h
  induction h with
  | nil => intro A hA; cases hA
  | @cons x B q F h1 h2 ih =>
    intro A hA ho
    rcases List.mem_cons.1 hA with rfl | hA
    · obtain ⟨e1, o1, p, hp, _, hf⟩ := h1
      obtain ⟨i, b⟩ := x
      simp only at e1 o1 hp hf
      have hb : b = true := by rw [← e1]; exact ho
      subst hb
      exact ⟨i, p, by simp, o1 rfl, hp, hf⟩
    · obtain ⟨id, p, k1, k2⟩ := ih A hA ho
      exact ⟨id, p, by simp [k1], k2⟩
theorem Match.live {ρ : Env} {g : Hp} {q : Met} {F : Feet} (h : Match ρ g q F) : ∀ x ∈ q, ∃ p, ρ x.1 = some p ∧ g x.1 ≠ .dead ∧ (x.2 = true → (g x.1).own = true) := by
  unfold Match at h
  induction h with
  | nil => intro A hA; cases hA
  | @cons y B q F h1 h2 ih =>
    intro x hx
    rcases List.mem_cons.1 hx with rfl | hx
    · obtain ⟨e1, o1, p, hp, hd, hf⟩ := h1
      exact ⟨p, hp, hd, o1⟩
    · exact ih x hx
theorem pend_call {ρ : Env} {g : Hp} {q : Met} {F F' : Feet} (I : Inv w0 M ρ g w) (hm : Match ρ g q F) (hs : sepIds q = true) (hF' : Sep F') (hfr : Fr (ownOf F) w w') (hnew : ∀ b off, ownOf F' b off → ownOf F b off ∨ w.heap.size ≤ b) :
    Pend false w0 M ρ g (ownL q) F' w' := by
  have hfoot : ∀ b off, ownOf F b off → ∃ id p, id ∈ ownL q ∧ (g id).own = true ∧ ρ id = some p ∧ foot p (g id) b off := by
    rintro b off ⟨A, hA, ho, hf⟩
    obtain ⟨id, p, h1, h2, h3, h4⟩ := hm.mem A hA ho
    exact ⟨id, p, mem_ownL.2 h1, h2, h3, h4 _ _ hf⟩
  have hk : ∀ id, kills (ownL q) g id ≠ .dead → id ∉ ownL q ∧ kills (ownL q) g id = g id := by
    intro id hid
    unfold kills at hid ⊢
    by_cases h : id ∈ ownL q
    · rw [if_pos h] at hid; exact absurd rfl hid
    · exact ⟨h, by rw [if_neg h]⟩
  have hkf : ∀ id p b off, foot p (kills (ownL q) g id) b off → id ∉ ownL q ∧ kills (ownL q) g id = g id := fun id p b off hf => hk id (by intro h0; rw [h0] at hf; exact hf)
  have hown : ∀ b off, ownOf F b off → M b off ∨ w0.heap.size ≤ b := by
    intro b off h
    obtain ⟨id, p, _, h2, h3, h4⟩ := hfoot b off h
    exact I.own id p h3 h2 b off h4
  refine ⟨⟨⟨?_, ?_⟩, I.fr.trans' hfr hown, ?_⟩, ?_, sepIds_nodup hs, hF', ?_, ?_⟩
  · intro id hid
    obtain ⟨h1, h2⟩ := hk id hid
    rw [h2] at hid ⊢
    obtain ⟨p, hp, hr⟩ := I.ok.rep id hid
    refine ⟨p, hp, hr.frame hfr fun b off hf hn => ?_⟩
    obtain ⟨id', p', k1, k2, k3, k4⟩ := hfoot b off hn
    exact I.ok.sep id' id p' p (by rintro rfl; exact h1 k1) k3 hp k2 b off k4 hf
  · intro i j p r hij hp hr ho b off hf hf'
    obtain ⟨_, e1⟩ := hkf i p b off hf
    obtain ⟨_, e2⟩ := hkf j r b off hf'
    rw [e1] at ho hf
    rw [e2] at hf'
    exact I.ok.sep i j p r hij hp hr ho b off hf hf'
  · intro i p hp ho b off hf
    obtain ⟨_, e1⟩ := hkf i p b off hf
    rw [e1] at ho hf
    exact I.own i p hp ho b off hf
  · intro id hid
    obtain ⟨p, hp, _⟩ := hm.live _ (mem_ownL.1 hid)
    simp only at hp
    rw [hp]; simp
  · intro A hA id p hp hor b off ha hf
    have ho : A.1 = true := by
      rcases hor with h | ⟨h, _⟩
      · exact h
      · cases h
    obtain ⟨h1, e1⟩ := hkf id p b off hf
    rw [e1] at hf
    rcases hnew b off ⟨A, hA, ho, ha⟩ with h | h
    · obtain ⟨id', p', k1, k2, k3, k4⟩ := hfoot b off h
      exact I.ok.sep id' id p' p (by rintro rfl; exact h1 k1) k3 hp k2 b off k4 hf
    · obtain ⟨p', hp', hr⟩ := I.ok.rep id (by intro h0; rw [h0] at hf; exact hf)
      rw [hp] at hp'; cases hp'
      have := hr.lt' b off hf
      omega
  · intro A hA ho b off ha
    rcases hnew b off ⟨A, hA, ho, ha⟩ with h | h
    · exact hown b off h
    · exact .inr (Nat.le_trans I.fr.size h)
theorem callP_ok {P : Program} {A : Ann} {f : Nat} {vs : List AV} {args : Array Value} {v : AV} {l : List Ac} {ρ : Env} {g : Hp} (hcal : ∀ ds rs, cal f ds = some rs → Contract P f (A.mode f) ds rs) (S : Sit cal (callP P A f vs) l v w0 M ρ g w) (hv : RepVs ρ vs args.toList) :
    ∃ fn, P.funcs[f]? = some fn ∧ fn.body.isSome = true ∧ Calls P f args w fun e w' => ∃ vv, e = .returned vv ∧ Fin w0 M l g ρ w' (fun ρ' => RepV ρ' v vv) := by
  unfold callP at S
  split at S
  · exact S.fail
  · rename_i fn hfn
    have I := S.inv
    obtain ⟨ds, q, l1, S1, hg, hrd⟩ := gargs_ok _ _ _ S.to
    obtain ⟨F, hF, hM⟩ := GatA.rep I.ok _ _ _ hg hv
    have S0 := S1.chk; clear S1; obtain ⟨hs, S1⟩ := S0
    rw [List.nil_append] at hs
    have S0 := S1.call; clear S1; obtain ⟨rs, l2, rfl, hc, S1⟩ := S0
    obtain ⟨fn', hfn', hb, hcalls⟩ := hcal ds rs hc
    rw [hfn] at hfn'; cases hfn'
    refine ⟨fn, hfn, hb, (hcalls w args F hF (hM.sep I.ok hs)).mono fun e w' h => ?_⟩
    obtain ⟨outs, F', he, hlen, hr, hsep, hfr, hnew, hok, hal, hro⟩ := h
    refine ⟨_, he, ?_⟩
    have hp := pend_call I hM hs hsep hfr hnew
    obtain ⟨cs', F2, l3, g3, ρ3, S3, p3, sub3, same3, ⟨y3, z3⟩, fin3⟩ := wrapTs_ok (vs := outs) (us := muts (A.mode f) args.toList) fn.resultTypes.toList (j := 0) (ds := rs) rfl hok (by simpa using hlen) hr hp S1
    have hsm : ∀ x ∈ q, g3 x.1 = g x.1 := fun x hx => by
      obtain ⟨p, hp, _⟩ := hM.live x hx
      exact same3 x.1 (by rw [hp]; simp) (by simp)
    have hold : Old ρ3 g3 q w := fun x hx => by
      obtain ⟨p, hp, hd, _⟩ := hM.live x hx
      obtain ⟨p', hp', hr⟩ := I.ok.rep x.1 hd
      rw [hp] at hp'; cases hp'
      exact ⟨p, sub3 _ _ hp, by rw [hsm x hx]; exact hr.mono sub3⟩
    obtain ⟨l4, g4, ρ4, S4, p4, sub4, same4, _, fin4⟩ := scatArgs_ok (A.mode f) _ vs (d0 := ds) (rs := rs) (j := fn.resultTypes.size) (S := []) (F := []) (K := .ret (retV cs')) (GatA.congr _ _ _ hg hsm) rfl hal
      (by simpa using z3) hro (hv.mono sub3 _ _) hs hold (by simpa using p3) S3
    obtain ⟨rfl, rfl⟩ := S4.ret
    refine hrd.fin (Fin.call (fin3 _ (fin4 _ ?_)))
    exact Fin.here (by simpa [kills_nil] using p4.inv) (retV_rep (y3.mono sub4 _ _))
end
end Go.Ev
