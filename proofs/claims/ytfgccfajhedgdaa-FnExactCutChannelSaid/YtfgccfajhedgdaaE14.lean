/- The evaluator: what a call does to the caller's entries. -/
import Derived.Test.YtfgccfajhedgdaaE13
namespace Go.Ev
set_option linter.unusedSimpArgs false
set_option linter.unusedVariables false
set_option linter.unnecessarySimpa false
open Go Go.RowKit
mutual
def Ro (w w' : World) : D → Value → Prop
  | .ptr _ l, v => ∀ x, v = .pointer (some x) → ∀ (j : Nat) nil a, l[j]? = some (.arr false nil a) → w'.cell? (x.add j) = w.cell? (x.add j)
  | .fn _ l, v => ∀ f ps vs, v = .func f ps vs → Ros w w' l vs.toList
  | .agg l, v => ∀ vs, v = .agg vs → Ros w w' l vs.toList
  | _, _ => True
def Ros (w w' : World) : List D → List Value → Prop
  | [], _ => True
  | d :: ds, vs => ∀ u us, vs = u :: us → Ro w w' d u ∧ Ros w w' ds us
end
def retVal (outs : List Value) : Value := match outs with
  | [v] => v
  | vs => .tuple vs.toArray
def Post (P : Program) (fn : Func) (ms : List Bool) (ds rs : List D) (args : List Value) (F : Feet) (w : World) (e : Ending) (w' : World) : Prop :=
  ∃ outs F', e = .returned (retVal outs) ∧ outs.length = fn.resultTypes.size ∧ RepDs w' rs (outs ++ muts ms args) F' ∧ Sep F' ∧ Fr (ownOf F) w w' ∧ (∀ b off, ownOf F' b off → ownOf F b off ∨ w.heap.size ≤ b) ∧
    okTs P fn.resultTypes.toList rs = true ∧ alikes (muts ms ds) (rs.drop fn.resultTypes.size) = true ∧ Ros w w' (muts ms ds) (muts ms args)
def Contract (P : Program) (f : Nat) (ms : List Bool) (ds rs : List D) : Prop :=
  ∃ fn, P.funcs[f]? = some fn ∧ fn.body.isSome = true ∧ ∀ (w : World) (args : Array Value) (F : Feet), RepDs w ds args.toList F → Sep F → Calls P f args w (Post P fn ms ds rs args.toList F w)

def ownL (q : Met) : List Nat := (q.filter (·.2)).map (·.1)
theorem ownL_append (q q' : Met) : ownL (q ++ q') = ownL q ++ ownL q' := by simp [ownL]
theorem mem_ownL {q : Met} {id : Nat} : id ∈ ownL q ↔ (id, true) ∈ q := by
  simp only [ownL, List.mem_map, List.mem_filter]
  constructor
  · rintro ⟨⟨a, b⟩, ⟨h, hb⟩, rfl⟩; simp only at hb; subst hb; exact h
  · intro h; exact ⟨_, ⟨h, rfl⟩, rfl⟩
theorem sepIds_append : ∀ {q q' : Met}, sepIds (q ++ q') = true → sepIds q = true ∧ sepIds q' = true ∧ ∀ x ∈ q, ∀ y ∈ q', (x.2 = true ∨ y.2 = true) → y.1 ≠ x.1
  | [], q', h => ⟨rfl, h, fun x hx => by cases hx⟩
  | (i, b) :: q, q', h => by
    simp only [List.cons_append, sepIds, Bool.and_eq_true, List.all_eq_true, List.mem_append] at h
    obtain ⟨h1, h2, h3⟩ := sepIds_append h.2
    refine ⟨?_, h2, ?_⟩
    · simp only [sepIds, Bool.and_eq_true, List.all_eq_true]
      exact ⟨fun y hy => h.1 y (.inl hy), h1⟩
    · intro x hx y hy hor
      rcases List.mem_cons.1 hx with rfl | hx
      · have := h.1 y (.inr hy)
        intro he
        subst he
        simp only at hor
        rw [Nat.beq_refl] at this
        simp only [Bool.not_true, Bool.false_or, Bool.not_eq_true', Bool.or_eq_false_iff] at this
        rw [this.1, this.2] at hor
        simp at hor
      · exact h3 x hx y hy hor
theorem sepIds_nodup : ∀ {q : Met}, sepIds q = true → (ownL q).Nodup
  | [], _ => by simp [ownL]
  | (i, b) :: q, h => by
    obtain ⟨h1, h2, h3⟩ := sepIds_append (q := [(i, b)]) (q' := q) h
    have := sepIds_nodup h2
    cases b with
    | false => simpa [ownL] using this
    | true =>
      simp only [ownL, List.filter_cons, if_true, List.map_cons, List.nodup_cons]
      refine ⟨fun hm => ?_, this⟩
      have hm' : i ∈ ownL q := hm
      rw [mem_ownL] at hm'
      exact h3 (i, true) (by simp) (i, true) hm' (.inl rfl) rfl

/-! the gathered depends on what was met alone -/
mutual
theorem Gat0.congr {g g' : Hp} {m : Bool} : ∀ (c : AV) {d : D} {q : Met}, Gat0 g m c d q → (∀ x ∈ q, g' x.1 = g x.1) → Gat0 g' m c d q
  | .int _ _, d, q, h, e => by simpa only [Gat0] using h
  | .bool _, d, q, h, e => by simpa only [Gat0] using h
  | .str _, d, q, h, e => by simpa only [Gat0] using h
  | .un, d, q, h, e => by simp only [Gat0] at h
  | .nils, d, q, h, e => by simp only [Gat0] at h
  | .ptr _ _ _, d, q, h, e => by simp only [Gat0] at h
  | .tup _, d, q, h, e => by simp only [Gat0] at h
  | .sl id none, d, q, h, e => by
    simp only [Gat0] at h ⊢
    obtain ⟨own, nil, a, hg, hd, rfl⟩ := h
    exact ⟨own, nil, a, by rw [e (id, m && own) (by simp)]; exact hg, hd, rfl⟩
  | .sl id (some (o, n)), d, q, h, e => by
    simp only [Gat0] at h ⊢
    obtain ⟨own, nil, a, hg, hm, hd, rfl⟩ := h
    exact ⟨own, nil, a, by rw [e (id, false) (by simp)]; exact hg, hm, hd, rfl⟩
  | .agg cs, d, q, h, e => by
    simp only [Gat0] at h ⊢
    obtain ⟨l, hd, h⟩ := h
    exact ⟨l, hd, Gats0.congr cs h e⟩
  | .fn f cs, d, q, h, e => by
    simp only [Gat0] at h ⊢
    obtain ⟨l, hd, h⟩ := h
    exact ⟨l, hd, Gats0.congr cs h e⟩
theorem Gats0.congr {g g' : Hp} {m : Bool} : ∀ (cs : List AV) {ds : List D} {q : Met}, Gats0 g m cs ds q → (∀ x ∈ q, g' x.1 = g x.1) → Gats0 g' m cs ds q
  | [], ds, q, h, e => by simpa only [Gats0] using h
  | c :: cs, ds, q, h, e => by
    simp only [Gats0] at h ⊢
    obtain ⟨d, l, q1, q2, hd, rfl, h1, h2⟩ := h
    exact ⟨d, l, q1, q2, hd, rfl, Gat0.congr c h1 fun x hx => e x (by simp [hx]), Gats0.congr cs h2 fun x hx => e x (by simp [hx])⟩
end
mutual
theorem Gat.congr {g g' : Hp} {m : Bool} : ∀ (n : Option Nat) (c : AV) {d : D} {q : Met}, Gat g m n c d q → (∀ x ∈ q, g' x.1 = g x.1) → Gat g' m n c d q
  | n, .int _ _, d, q, h, e => by simpa only [Gat, Gat0] using h
  | n, .bool _, d, q, h, e => by simpa only [Gat, Gat0] using h
  | n, .str _, d, q, h, e => by simpa only [Gat, Gat0] using h
  | n, .un, d, q, h, e => by simpa only [Gat, Gat0] using h
  | n, .nils, d, q, h, e => by simpa only [Gat, Gat0] using h
  | n, .tup _, d, q, h, e => by simpa only [Gat, Gat0] using h
  | n, .sl id wn, d, q, h, e => by simp only [Gat] at h ⊢; exact Gat0.congr _ h e
  | n, .ptr id i o, d, q, h, e => by
    simp only [Gat] at h ⊢
    obtain ⟨own, cs, l, q1, hi, hg, hm, h1, hd, rfl⟩ := h
    exact ⟨own, cs, l, q1, hi, by rw [e (id, m && own) (by simp)]; exact hg, hm, Gats0.congr _ h1 fun x hx => e x (by simp [hx]), hd, rfl⟩
  | n, .agg cs, d, q, h, e => by
    simp only [Gat] at h ⊢
    obtain ⟨l, hd, h⟩ := h
    exact ⟨l, hd, Gats.congr cs h e⟩
  | n, .fn f cs, d, q, h, e => by
    simp only [Gat] at h ⊢
    obtain ⟨l, hd, h⟩ := h
    exact ⟨l, hd, Gats.congr cs h e⟩
theorem Gats.congr {g g' : Hp} {m : Bool} : ∀ (cs : List AV) {ds : List D} {q : Met}, Gats g m cs ds q → (∀ x ∈ q, g' x.1 = g x.1) → Gats g' m cs ds q
  | [], ds, q, h, e => by simpa only [Gats] using h
  | c :: cs, ds, q, h, e => by
    simp only [Gats] at h ⊢
    obtain ⟨d, l, q1, q2, hd, rfl, h1, h2⟩ := h
    exact ⟨d, l, q1, q2, hd, rfl, Gat.congr none c h1 fun x hx => e x (by simp [hx]), Gats.congr cs h2 fun x hx => e x (by simp [hx])⟩
end
theorem GatA.congr {g g' : Hp} : ∀ (ms : List Bool) (ns : List (Option Nat)) (cs : List AV) {ds : List D} {q : Met}, GatA g ms ns cs ds q → (∀ x ∈ q, g' x.1 = g x.1) → GatA g' ms ns cs ds q
  | ms, ns, [], ds, q, h, e => by simpa only [GatA] using h
  | ms, ns, c :: cs, ds, q, h, e => by
    simp only [GatA] at h ⊢
    obtain ⟨d, l, q1, q2, hd, rfl, h1, h2⟩ := h
    exact ⟨d, l, q1, q2, hd, rfl, Gat.congr _ c h1 fun x hx => e x (by simp [hx]), GatA.congr _ _ cs h2 fun x hx => e x (by simp [hx])⟩

theorem Arr.kin_like {a a' : Arr} {o nil : Bool} (h : a.kin a' = true) : a.like (.arr o nil a') = a' ∧ a.size = a'.size := by
  cases a <;> cases a' <;> simp_all [Arr.kin, Arr.like, Arr.size, D.ints, D.bools, D.strs, D.r3, D.r4]

section
variable {cal : Nat → List D → Option (List D)} {α : Type} {u : α} {w0 : World} {M : Nat → Nat → Prop} {w w' : World}
def Onto (cal : Nat → List D → Option (List D)) {α : Type} (K : Prog α) (S1 S2 : List Nat) (F2 : Feet) (Y : Env → Prop) (l : List Ac) (u : α) (w0 : World) (M : Nat → Nat → Prop) (ρ : Env) (g : Hp) (w' : World) : Prop :=
  ∃ l' g' ρ', Sit0 cal K l' u ρ' g' ∧ Pend false w0 M ρ' g' S2 F2 w' ∧ Sub ρ ρ' ∧ (∀ id, ρ id ≠ none → id ∉ S1 → g' id = g id) ∧ Y ρ' ∧ ∀ X, Fin w0 M l' g' ρ' w' X → Fin w0 M l g ρ w' X
theorem Onto.here {K : Prog α} {S1 S2 : List Nat} {F2 : Feet} {Y : Env → Prop} {l : List Ac} {ρ : Env} {g : Hp} (S : Sit0 cal K l u ρ g) (p : Pend false w0 M ρ g S2 F2 w') (y : Y ρ) : Onto cal K S1 S2 F2 Y l u w0 M ρ g w' :=
  ⟨l, g, ρ, S, p, Sub.refl ρ, fun _ _ _ => rfl, y, fun _ h => h⟩
theorem Sub.ne {ρ ρ' : Env} (h : Sub ρ ρ') {id : Nat} (hn : ρ id ≠ none) : ρ' id ≠ none := by
  cases hr : ρ id with
  | none => exact absurd hr hn
  | some p => rw [h id p hr]; simp
theorem scatC_ok {c : AV} {d0 d : D} {q : Met} {v : Value} {F1 F : Feet} {S : List Nat} {K : AV → Prog α} {l : List Ac} {ρ : Env} {g : Hp} (hg : Gat0 g true c d0 q) (ha : alike d0 d = true) (hr : RepD w' d v F1)
    (hro : ∀ nil a, d0 = .arr false nil a → RepV ρ c v) (hp : Pend false w0 M ρ g (ownL q ++ S) (F1 ++ F) w') (hS : Sit0 cal (scatC c d K) l u ρ g) :
    ∃ c', Onto cal (K c') (ownL q) S F (fun ρ' => RepV ρ' c' v) l u w0 M ρ g w' := by
  unfold scatC at hS
  split at hS
  · rename_i k n
    simp only [Gat0] at hg
    obtain ⟨rfl, rfl⟩ := hg
    cases d <;> simp only [alike, Bool.false_eq_true] at ha
    rename_i k' n'
    have hk : k = k' := by simpa using ha
    subst hk
    simp only [RepD] at hr
    obtain ⟨rfl, rfl⟩ := hr
    exact ⟨_, Onto.here hS hp (by simp [RepV, D.toInt])⟩
  · simp only [Gat0] at hg
    obtain ⟨rfl, rfl⟩ := hg
    cases d <;> simp only [alike, Bool.false_eq_true] at ha
    simp only [RepD] at hr
    obtain ⟨rfl, rfl⟩ := hr
    exact ⟨_, Onto.here hS hp (by simp [RepV, D.toBool])⟩
  · simp only [Gat0] at hg
    obtain ⟨rfl, rfl⟩ := hg
    cases d <;> simp only [alike, Bool.false_eq_true] at ha
    simp only [RepD] at hr
    obtain ⟨rfl, rfl⟩ := hr
    exact ⟨_, Onto.here hS hp (by simp [RepV, D.toStr])⟩
  · rename_i id
    simp only [Gat0] at hg
    obtain ⟨own, nil, a, hge, rfl, rfl⟩ := hg
    cases d <;> simp only [alike, Bool.false_eq_true] at ha
    rename_i o' nil' a'
    simp only [Bool.true_and, Bool.and_eq_true, beq_iff_eq] at ha
    obtain ⟨rfl, hk⟩ := ha
    obtain ⟨hlike, hsz⟩ := Arr.kin_like (o := own) (nil := nil') hk
    simp only [RepD] at hr
    obtain ⟨p, rfl, hre, rfl⟩ := hr
    have S0 := hS.rd; clear hS; obtain ⟨l1, rfl, hS⟩ := S0
    rw [hge] at hS
    cases own with
    | false =>
      simp only at hS
      refine ⟨_, _, g, ρ, hS, ?_, Sub.refl ρ, fun _ _ _ => rfl, hro nil a (by simp), fun X h => h.rd⟩
      exact Pend.skip (F1 := [(false, foot p (.arr false nil' a'))]) (by simpa [ownL] using hp)
    | true =>
      simp only at hS
      have S0 := hS.wr; clear hS; obtain ⟨l2, rfl, hd, hS⟩ := S0
      have S0 := hS.new; clear hS; obtain ⟨id', l3, rfl, hid', hd', hS⟩ := S0
      have hp1 : Pend false w0 M ρ g (id :: S) ((true, foot p (.arr true nil' a')) :: F) w' := by simpa [ownL] using hp
      have hp2 := hp1.dead.new (id := id') (p := p) (e := .arr true nil' a') hid' hre rfl (.inr rfl) (fun _ _ h => h)
      refine ⟨_, l3, _, _, hS p, ?_, sub_updρ hid', fun i hi hn => ?_, ?_, fun X h => ((Fin.new hid' h).wr).rd⟩
      · simpa [D.nil, hlike] using hp2
      · have h1 : i ≠ id' := by rintro rfl; exact hi hid'
        have h2 : i ≠ id := by rintro rfl; exact hn (by simp [ownL])
        rw [upd_other _ _ h1, upd_other _ _ h2]
      · simp only [RepV]; exact ⟨p, updρ_same _ _ _, rfl⟩
  · exact hS.fail
theorem scatCs_ok : ∀ (cs : List AV) {d0 ds : List D} {d : D} {j : Nat} {q : Met} {vs : List Value} {F1 F : Feet} {S : List Nat} {K : List AV → Prog α} {l : List Ac} {ρ : Env} {g : Hp}, Gats0 g true cs d0 q → alikes d0 ds = true →
    (∀ i, d.cell (j + i) = ds.getD i (.bool false)) → RepDs w' ds vs F1 → (∀ (i : Nat) c v nil a, cs[i]? = some c → vs[i]? = some v → d0[i]? = some (.arr false nil a) → RepV ρ c v) →
    sepIds q = true → (∀ x ∈ q, ρ x.1 ≠ none) → Pend false w0 M ρ g (ownL q ++ S) (F1 ++ F) w' → Sit0 cal (scatCs cs d j K) l u ρ g →
    ∃ cs', Onto cal (K cs') (ownL q) S F (fun ρ' => RepVs ρ' cs' vs) l u w0 M ρ g w'
  | [], d0, ds, d, j, q, vs, F1, F, S, K, l, ρ, g, hg, ha, hc, hr, hro, hs, hk, hp, hS => by
    simp only [Gats0] at hg
    obtain ⟨rfl, rfl⟩ := hg
    cases ds with
    | cons _ _ => simp [alikes] at ha
    | nil =>
      simp only [RepDs] at hr
      obtain ⟨rfl, rfl⟩ := hr
      exact ⟨[], Onto.here (by simpa only [scatCs] using hS) hp (by simp [RepVs])⟩
  | c :: cs, d0, ds, d, j, q, vs, F1, F, S, K, l, ρ, g, hg, ha, hc, hr, hro, hs, hk, hp, hS => by
    simp only [Gats0] at hg
    obtain ⟨e0, l0, q1, q2, rfl, rfl, hg1, hg2⟩ := hg
    cases ds with
    | nil => simp [alikes] at ha
    | cons e ds =>
      simp only [alikes, Bool.and_eq_true] at ha
      simp only [RepDs] at hr
      obtain ⟨x, us, G1, G2, rfl, rfl, hr1, hr2⟩ := hr
      simp only [scatCs] at hS
      have hce : d.cell j = e := by simpa using hc 0
      rw [hce] at hS
      obtain ⟨hs1, hs2, hs3⟩ := sepIds_append hs
      obtain ⟨c', l1, g1, ρ1, S1, p1, sub1, same1, y1, fin1⟩ := scatC_ok (S := ownL q2 ++ S) (F := G2 ++ F) hg1 ha.1 hr1 (fun nil a h0 => hro 0 c x nil a (by simp) (by simp) (by simp [h0])) (by simpa [ownL_append] using hp) hS
      have hg2' : Gats0 g1 true cs l0 q2 := Gats0.congr cs hg2 fun y hy => same1 y.1 (hk y (by simp [hy])) fun hm => hs3 _ (mem_ownL.1 hm) y hy (.inl rfl) rfl
      obtain ⟨cs', l2, g2, ρ2, S2, p2, sub2, same2, y2, fin2⟩ := scatCs_ok cs (d := d) (j := j + 1) (F := F) hg2' ha.2 (fun i => by have := hc (i + 1); rw [show j + 1 + i = j + (i + 1) by omega, this]; simp) hr2
        (fun i c v nil a h1 h2 h3 => (hro (i + 1) c v nil a (by simpa using h1) (by simpa using h2) (by simpa using h3)).mono sub1 _ _) hs2 (fun y hy => sub1.ne (hk y (by simp [hy]))) p1 S1
      refine ⟨c' :: cs', l2, g2, ρ2, S2, p2, sub1.trans sub2, fun i hi hn => ?_, RepVs.cons (y1.mono sub2 _ _) y2, fun X h => fin1 X (fin2 X h)⟩
      rw [ownL_append, List.mem_append, not_or] at hn
      rw [same2 i (sub1.ne hi) hn.2, same1 i hi hn.1]
/-- what was met stood for what lay there before the call -/
def Old (ρ : Env) (g : Hp) (q : Met) (w : World) : Prop := ∀ x ∈ q, ∃ p, ρ x.1 = some p ∧ RepE ρ w p (g x.1)
theorem Old.ne {ρ : Env} {g : Hp} {q : Met} (h : Old ρ g q w) : ∀ x ∈ q, ρ x.1 ≠ none := fun x hx => by
  obtain ⟨p, hp, _⟩ := h x hx
  rw [hp]; simp
theorem Gats0.get {g : Hp} {m : Bool} : ∀ {cs : List AV} {ds : List D} {q : Met}, Gats0 g m cs ds q → ∀ {i : Nat} {d : D}, ds[i]? = some d → ∃ c q', cs[i]? = some c ∧ Gat0 g m c d q'
  | [], ds, q, h, i, d, e => by simp only [Gats0] at h; rw [h.1] at e; simp at e
  | c :: cs, ds, q, h, i, d, e => by
    simp only [Gats0] at h
    obtain ⟨d', l, q1, q2, rfl, rfl, h1, h2⟩ := h
    cases i with
    | zero => simp at e; subst e; exact ⟨c, q1, by simp, h1⟩
    | succ i => simp at e; obtain ⟨c', q', h3, h4⟩ := h2.get e; exact ⟨c', q', by simpa using h3, h4⟩
mutual
theorem scat_ok : ∀ (c : AV) {n : Option Nat} {d0 d : D} {q : Met} {v : Value} {F1 F : Feet} {S : List Nat} {K : Prog α} {l : List Ac} {ρ : Env} {g : Hp}, Gat g true n c d0 q → alike d0 d = true → RepD w' d v F1 → Ro w w' d0 v → RepV ρ c v →
    sepIds q = true → Old ρ g q w → Pend false w0 M ρ g (ownL q ++ S) (F1 ++ F) w' → Sit0 cal (scat c d K) l u ρ g →
    Onto cal K (ownL q) S F (fun _ => True) l u w0 M ρ g w'
  | .int k x, n, d0, d, q, v, F1, F, S, K, l, ρ, g, hg, ha, hr, hro, hv, hs, ho, hp, hS => by
    simp only [Gat, Gat0] at hg
    obtain ⟨rfl, rfl⟩ := hg
    cases d <;> simp only [alike, Bool.false_eq_true] at ha
    simp only [RepD] at hr
    obtain ⟨rfl, rfl⟩ := hr
    exact Onto.here (by simpa only [scat] using hS) hp trivial
  | .bool x, n, d0, d, q, v, F1, F, S, K, l, ρ, g, hg, ha, hr, hro, hv, hs, ho, hp, hS => by
    simp only [Gat, Gat0] at hg
    obtain ⟨rfl, rfl⟩ := hg
    cases d <;> simp only [alike, Bool.false_eq_true] at ha
    simp only [RepD] at hr
    obtain ⟨rfl, rfl⟩ := hr
    exact Onto.here (by simpa only [scat] using hS) hp trivial
  | .str x, n, d0, d, q, v, F1, F, S, K, l, ρ, g, hg, ha, hr, hro, hv, hs, ho, hp, hS => by
    simp only [Gat, Gat0] at hg
    obtain ⟨rfl, rfl⟩ := hg
    cases d <;> simp only [alike, Bool.false_eq_true] at ha
    simp only [RepD] at hr
    obtain ⟨rfl, rfl⟩ := hr
    exact Onto.here (by simpa only [scat] using hS) hp trivial
  | .un, n, d0, d, q, v, F1, F, S, K, l, ρ, g, hg, ha, hr, hro, hv, hs, ho, hp, hS => by simp only [Gat, Gat0] at hg
  | .nils, n, d0, d, q, v, F1, F, S, K, l, ρ, g, hg, ha, hr, hro, hv, hs, ho, hp, hS => by simp only [Gat, Gat0] at hg
  | .tup _, n, d0, d, q, v, F1, F, S, K, l, ρ, g, hg, ha, hr, hro, hv, hs, ho, hp, hS => by simp only [Gat, Gat0] at hg
  | .sl id (some _), n, d0, d, q, v, F1, F, S, K, l, ρ, g, hg, ha, hr, hro, hv, hs, ho, hp, hS => by simp only [scat] at hS; exact hS.fail
  | .agg cs, n, d0, d, q, v, F1, F, S, K, l, ρ, g, hg, ha, hr, hro, hv, hs, ho, hp, hS => by
    simp only [Gat] at hg
    obtain ⟨l0, rfl, hg⟩ := hg
    cases d <;> simp only [alike, Bool.false_eq_true] at ha
    rename_i l'
    simp only [RepD] at hr
    obtain ⟨vs, rfl, hr⟩ := hr
    simp only [RepV] at hv
    obtain ⟨vs2, hvv, hv⟩ := hv
    simp only [Value.agg.injEq] at hvv
    subst hvv
    simp only [Ro] at hro
    simp only [scat] at hS
    exact scats_ok cs (d := .agg l') (j := 0) hg ha (fun i => by simp [D.cell]) hr (hro _ rfl) hv hs ho hp hS
  | .sl id none, n, d0, d, q, v, F1, F, S, K, l, ρ, g, hg, ha, hr, hro, hv, hs, ho, hp, hS => by
    simp only [Gat, Gat0] at hg
    obtain ⟨own, nil, a, hge, rfl, rfl⟩ := hg
    cases d <;> simp only [alike, Bool.false_eq_true] at ha
    rename_i o' nil' a'
    simp only [Bool.true_and, Bool.and_eq_true, beq_iff_eq] at ha
    obtain ⟨rfl, hk⟩ := ha
    obtain ⟨hlike, hsz⟩ := Arr.kin_like (o := own) (nil := nil') hk
    simp only [RepD] at hr
    obtain ⟨p', hv', hre, rfl⟩ := hr
    simp only [RepV, RepSl] at hv
    obtain ⟨p, hpp, hvv⟩ := hv
    simp only [scat] at hS
    have S0 := hS.rd; clear hS; obtain ⟨l1, rfl, hS⟩ := S0
    rw [hge] at hS
    cases own with
    | false =>
      simp only at hS
      exact ⟨_, g, ρ, hS, Pend.skip (F1 := [(false, foot p' (.arr false nil' a'))]) (by simpa [ownL] using hp), Sub.refl ρ, fun _ _ _ => rfl, trivial, fun X h => h.rd⟩
    | true =>
      simp only at hS
      have S0 := hS.wr; clear hS; obtain ⟨l2, rfl, hd, hS⟩ := S0
      obtain ⟨p2, hp2, hold⟩ := ho (id, true && true) (by simp)
      rw [hpp] at hp2; cases hp2
      rw [hge] at hold
      obtain ⟨pb, pl, pc, ps⟩ := p
      obtain ⟨pb', pl', pc', ps'⟩ := p'
      rw [hvv] at hv'
      simp only [Value.slice.injEq] at hv'
      obtain ⟨rfl, rfl, rfl⟩ := hv'
      have e1 : a.size = ps := hold.2.1
      have e2 : a'.size = ps' := hre.2.1
      have e3 : ps' = ps := by rw [← e1, ← e2, hsz]
      subst e3
      have hnn : nil = nil' := by
        have h1 := hold.2.2.1
        have h2 := hre.2.2.1
        have := h1.trans h2.symm
        cases nil <;> cases nil' <;> simp_all
      subst hnn
      have hp1 : Pend false w0 M ρ g (id :: S) ((true, foot ⟨pb, pl, pc, ps'⟩ (.arr true nil a')) :: F) w' := by simpa [ownL] using hp
      refine ⟨l2, _, ρ, hS, ?_, Sub.refl ρ, fun i hi hn => ?_, trivial, fun X h => h.wr.rd⟩
      · rw [hlike]
        exact hp1.back hpp hre rfl (.inr rfl) (fun _ _ h => h)
      · have h2 : i ≠ id := by rintro rfl; exact hn (by simp [ownL])
        rw [upd_other _ _ h2]
  | .ptr id i o, n, d0, d, q, v, F1, F, S, K, l, ρ, g, hg, ha, hr, hro, hv, hs, ho, hp, hS => by
    simp only [Gat] at hg
    obtain ⟨own, cs, l0, q1, rfl, hge, hm, hg1, rfl, rfl⟩ := hg
    obtain ⟨rfl, hn⟩ := hm trivial
    rw [List.drop_zero, List.take_of_length_le hn] at hg1
    cases d <;> simp only [alike, Bool.false_eq_true] at ha
    rename_i o' l'
    simp only [Bool.true_and, Bool.and_eq_true, beq_iff_eq] at ha
    obtain ⟨rfl, hk⟩ := ha
    simp only [RepD] at hr
    obtain ⟨x, vs, F', rfl, hx, hr, hc, ht, rfl⟩ := hr
    simp only [scat] at hS
    have S0 := hS.rd; clear hS; obtain ⟨l1, rfl, hS⟩ := S0
    rw [hge] at hS
    cases own with
    | false => exact hS.fail
    | true =>
      simp only at hS
      obtain ⟨p, hpp, hold⟩ := ho (id, true && true) (by simp)
      rw [hge] at hold
      obtain ⟨k1, y, vs0, k2, k3, k4, k5, k6⟩ := hold
      simp only [RepV] at hv
      obtain ⟨p2, y2, hp2, hb2, hi, hvv⟩ := hv
      rw [hpp] at hp2; cases hp2
      rw [k2] at hb2; cases hb2
      simp only [Nat.zero_mul, Nat.add_zero, addr_add_zero, Value.pointer.injEq, Option.some.injEq] at hvv
      subst hvv
      obtain ⟨hs1, hs2, hs3⟩ := sepIds_append hs
      have hlen : vs.length = l'.length := hr.length
      obtain ⟨cs', l2, g2, ρ2, S2, p2, sub2, same2, y2, fin2⟩ := scatCs_ok cs (d := .ptr true l') (j := 0) (S := id :: S) (F := (true, boxFoot x l'.length) :: F) hg1 hk (fun i => by simp [D.cell]) hr
        (fun i c v nil a h1 h2 h3 => by
          simp only [Ro] at hro
          have hcell := hro x rfl i nil a h3
          rw [hc i v h2] at hcell
          obtain ⟨u0, hu0, hcu⟩ := k4.get? h1
          rw [k5 i u0 hu0] at hcell
          cases hcell
          exact hcu) hs1 (fun y hy => ho.ne y (by simp [hy])) (by simpa [ownL_append, ownL] using hp) hS
      have S0 := S2.wr; clear S2; obtain ⟨l3, rfl, hd, hS3⟩ := S0
      have hl2 : cs'.length = l'.length := by rw [← y2.length, hlen]
      refine ⟨l3, _, ρ2, hS3, p2.back (sub2 _ _ hpp) ⟨k1, x, vs, k2, hx, y2, hc, ht⟩ rfl (.inr rfl) (fun b off hf => by rw [foot_box k2, hl2] at hf; exact hf), sub2, fun i hi hn => ?_, trivial, fun X h => (fin2 X h.wr).rd⟩
      simp only [ownL_append, List.mem_append, not_or] at hn
      have h2 : i ≠ id := by rintro rfl; exact hn.2 (by simp [ownL])
      rw [upd_other _ _ h2, same2 i hi hn.1]
  | .fn f cs, n, d0, d, q, v, F1, F, S, K, l, ρ, g, hg, ha, hr, hro, hv, hs, ho, hp, hS => by
    simp only [Gat] at hg
    obtain ⟨l0, rfl, hg⟩ := hg
    cases d <;> simp only [alike, Bool.false_eq_true] at ha
    rename_i f' l'
    simp only [Bool.and_eq_true] at ha
    simp only [RepD] at hr
    obtain ⟨vs, rfl, hr⟩ := hr
    simp only [RepV] at hv
    obtain ⟨vs2, hvv, hv⟩ := hv
    simp only [Value.func.injEq, true_and] at hvv
    obtain ⟨_, rfl⟩ := hvv
    simp only [Ro] at hro
    simp only [scat] at hS
    exact scats_ok cs (d := .fn f' l') (j := 0) hg ha.2 (fun i => by simp [D.cell]) hr (hro _ _ _ rfl) hv hs ho hp hS
theorem scats_ok : ∀ (cs : List AV) {d0 ds : List D} {d : D} {j : Nat} {q : Met} {vs : List Value} {F1 F : Feet} {S : List Nat} {K : Prog α} {l : List Ac} {ρ : Env} {g : Hp}, Gats g true cs d0 q → alikes d0 ds = true →
    (∀ i, d.cell (j + i) = ds.getD i (.bool false)) → RepDs w' ds vs F1 → Ros w w' d0 vs → RepVs ρ cs vs → sepIds q = true → Old ρ g q w → Pend false w0 M ρ g (ownL q ++ S) (F1 ++ F) w' → Sit0 cal (scats cs d j K) l u ρ g →
    Onto cal K (ownL q) S F (fun _ => True) l u w0 M ρ g w'
  | [], d0, ds, d, j, q, vs, F1, F, S, K, l, ρ, g, hg, ha, hc, hr, hro, hv, hs, ho, hp, hS => by
    simp only [Gats] at hg
    obtain ⟨rfl, rfl⟩ := hg
    cases ds with
    | cons _ _ => simp [alikes] at ha
    | nil =>
      simp only [RepDs] at hr
      obtain ⟨rfl, rfl⟩ := hr
      exact Onto.here (by simpa only [scats] using hS) hp trivial
  | c :: cs, d0, ds, d, j, q, vs, F1, F, S, K, l, ρ, g, hg, ha, hc, hr, hro, hv, hs, ho, hp, hS => by
    simp only [Gats] at hg
    obtain ⟨e0, l0, q1, q2, rfl, rfl, hg1, hg2⟩ := hg
    cases ds with
    | nil => simp [alikes] at ha
    | cons e ds =>
      simp only [alikes, Bool.and_eq_true] at ha
      simp only [RepDs] at hr
      obtain ⟨x, us, G1, G2, rfl, rfl, hr1, hr2⟩ := hr
      obtain ⟨hv1, hv2⟩ := hv.uncons
      simp only [Ros] at hro
      obtain ⟨ro1, ro2⟩ := hro x us rfl
      simp only [scats] at hS
      have hce : d.cell j = e := by simpa using hc 0
      rw [hce] at hS
      obtain ⟨hs1, hs2, hs3⟩ := sepIds_append hs
      obtain ⟨l1, g1, ρ1, S1, p1, sub1, same1, y1, fin1⟩ := scat_ok c (S := ownL q2 ++ S) (F := G2 ++ F) hg1 ha.1 hr1 ro1 hv1 hs1 (fun y hy => ho y (by simp [hy])) (by simpa [ownL_append] using hp) hS
      have hsm : ∀ y ∈ q2, g1 y.1 = g y.1 := fun y hy => same1 y.1 (ho.ne y (by simp [hy])) fun hm => hs3 _ (mem_ownL.1 hm) y hy (.inl rfl) rfl
      obtain ⟨l2, g2, ρ2, S2, p2, sub2, same2, y2, fin2⟩ := scats_ok cs (d := d) (j := j + 1) (F := F) (Gats.congr cs hg2 hsm) ha.2 (fun i => by have := hc (i + 1); rw [show j + 1 + i = j + (i + 1) by omega, this]; simp) hr2 ro2 (hv2.mono sub1 _ _) hs2
        (fun y hy => by obtain ⟨p, h1, h2⟩ := ho y (by simp [hy]); exact ⟨p, sub1 _ _ h1, by rw [hsm y hy]; exact h2.mono sub1⟩) p1 S1
      refine ⟨l2, g2, ρ2, S2, p2, sub1.trans sub2, fun i hi hn => ?_, trivial, fun X h => fin1 X (fin2 X h)⟩
      rw [ownL_append, List.mem_append, not_or] at hn
      rw [same2 i (sub1.ne hi) hn.2, same1 i hi hn.1]
end
end
end Go.Ev
