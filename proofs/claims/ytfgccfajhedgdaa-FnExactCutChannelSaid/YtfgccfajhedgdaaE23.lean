/- The evaluator: code, and every function that it evaluates. -/
import Derived.Test.YtfgccfajhedgdaaE22
namespace Go.Ev
set_option linter.unusedSimpArgs false
set_option linter.unusedVariables false
set_option linter.unnecessarySimpa false
open Go Go.RowKit
theorem least {p : Nat → Prop} : ∀ k, p k → ∃ m, p m ∧ ∀ j, p j → m ≤ j := by
  intro k
  induction k using Nat.strongRecOn with
  | _ k ih =>
    intro hk
    by_cases h : ∃ j, j < k ∧ p j
    · obtain ⟨j, hj, hp⟩ := h
      exact ih j hj hp
    · exact ⟨k, hk, fun j hj => Nat.le_of_not_lt fun hlt => h ⟨j, hlt, hj⟩⟩
open Classical in
noncomputable def leastOr (p : Nat → Prop) : Nat := if h : ∃ k, p k then (least h.choose h.choose_spec).choose else 0
theorem leastOr_spec {p : Nat → Prop} {k : Nat} (hk : p k) : p (leastOr p) ∧ ∀ j, p j → leastOr p ≤ j := by
  have h : ∃ k, p k := ⟨k, hk⟩
  unfold leastOr
  rw [dif_pos h]
  exact (least h.choose h.choose_spec).choose_spec
theorem wp_loop_fuel {P : Program} {c : Code} {Q : Exit → Act → World → Prop} (I : Nat → Act → World → Prop) (round : ∀ k a w, I k a w → c.wp P (Exit.then (fun a' w' => ∃ j, j < k ∧ I j a' w') Q) a w) {k : Nat} {a : Act} {w : World} (h : I k a w) :
    (Code.loop c).wp P Q a w := by
  refine wp_loop (fun a w => ∃ k, I k a w) (fun a w => leastOr fun k => I k a w) ⟨k, h⟩ fun a w ⟨k, hk⟩ => ?_
  have hm := (leastOr_spec (p := fun k => I k a w) hk).1
  refine wp_mono (round _ a w hm) fun e a' w' hq => ?_
  cases e with
  | normal =>
    obtain ⟨j, hj, hI⟩ := hq
    exact ⟨⟨j, hI⟩, Nat.lt_of_le_of_lt ((leastOr_spec (p := fun k => I k a' w') hI).2 j hI) hj⟩
  | _ => exact hq
def Ex.out : Ex → Exit
  | .normal => .normal
  | .exit id => .exit id
  | .ret => .ret
section
variable {P : Program} {A : Ann} {cal : Nat → List D → Option (List D)} {inl : Inl} {w0 : World} {M : Nat → Nat → Prop}
theorem acc_none {V : Type} (wr : Nat → Nat → Option V) (x0 : Nat → V) : ∀ k, acc wr x0 (fun _ => false) k = x0
  | 0 => rfl
  | k + 1 => by funext loc; simp only [acc, Bool.false_eq_true, if_false]; rw [acc_none wr x0 k]
theorem region_ok (G : Good P) (hcal : CalOk P A cal) (hinl : InlOk P inl) {id : Nat} {ops : Array Oper} {draw : Bool} {s : St} {K : St → R} {out : List D} {ρ : Env} {gv : List Value} {a : Act} {w : World} {Q : Exit → Act → World → Prop}
    (h : (evOps P A cal inl draw ops.toList ops.toList s [] fun s tr => cond draw (cond (bern ops.toList tr) (K s) none) (K s)) = some out) (R : StR w0 M ρ s gv a w)
    (hQ : ∀ s' ρ' a' w', K s' = some out → StR w0 M ρ' s' gv a' w' → Q .normal a' w') : (Code.region id ops draw).wp P Q a w := by
  cases draw with
  | false =>
    refine wp_region_list (ops_ok G hcal hinl (fun s' tr' ρ' a' w' hk => ?_) ops.toList s [] ρ a w h R)
    exact hQ s' ρ' a' w' (by simpa using hk)
  | true =>
    obtain ⟨fr, hp, sts, trs, f1, f2, f3, W⟩ := walk _ _ _ h
    simp only [cond_true, List.nil_append, Array.length_toList] at f3
    cases hb : bern ops.toList trs with
    | false => rw [hb] at f3; cases f3
    | true =>
      rw [hb] at f3
      simp only [cond_true] at f3
      refine wp_region_any G.mixed ?_
      have hE : (fun i => (Array.replicate ops.size false).getD i false) = fun _ => false := by
        funext i
        simp only [Array.getD_eq_getD_getElem?, Array.getElem?_replicate]
        split <;> rfl
      refine drawn_ok G hcal W hb (fun ρ' a' w' R' => hQ _ ρ' a' w' f3 R') ops.size _ a _ ρ (by simp) ?_ ?_ ?_
      · rw [hE, cnt_none]; exact Nat.le_refl _
      · intro i o hi; rw [hE] at hi; cases hi
      · rw [hE]
        have hfr : frE ops.toList sts (fr 0) (fun _ => false) = s.fr := by
          unfold frE
          rw [acc_none, f1]
          apply List.ext_getElem?
          intro i
          by_cases hi : i < s.fr.length
          · simp [hi]
          · rw [List.getElem?_eq_none (by simp; omega), List.getElem?_eq_none (by omega)]
        have hhp : hpE ops.toList sts (hp 0) (fun _ => false) = ent s.h := by
          unfold hpE
          rw [acc_none, f2]
        refine ⟨by rw [hfr]; exact R.fr, R.pn, by rw [hhp]; exact R.inv.world (fr_drew w), ?_, ?_, R.calm⟩
        · intro j st _ hst i hi
          have hj := (List.getElem?_eq_some_iff.1 hst).1
          rw [W.1] at hj
          obtain ⟨_, st', _, _, hst', _, S, _⟩ := W.at hj
          rw [hst] at hst'; cases hst'
          have h1 := (S.news i hi).1
          have h2 := W.mono 0 j (Nat.zero_le _) (Nat.le_of_lt hj)
          rw [f2] at h2
          exact R.top i (Nat.le_trans h2 h1)
        · intro i hi
          have h2 := W.mono 0 ops.size (Nat.zero_le _) (by simp)
          rw [f2] at h2
          exact R.top i (Nat.le_trans h2 hi)
theorem evC_ok (G : Good P) (hcal : CalOk P A cal) (hinl : InlOk P inl) {f lf : Nat} {gv : List Value} {out : List D} : ∀ (c : Code) {s : St} {K : Kont} {ρ : Env} {a : Act} {w : World} {Q : Exit → Act → World → Prop},
    evC P A cal inl f lf c s K = some out → StR w0 M ρ s gv a w → (∀ ex s' ρ' a' w', K ex s' = some out → StR w0 M ρ' s' gv a' w' → Q ex.out a' w') → c.wp P Q a w := by
  intro c
  induction c with
  | skip =>
    intro s K ρ a w Q h R hQ
    simp only [evC] at h
    exact wp_skip (hQ .normal s ρ a w h R)
  | region id ops draw =>
    intro s K ρ a w Q h R hQ
    simp only [evC] at h
    exact region_ok G hcal hinl (K := fun s => K .normal s) h R fun s' ρ' a' w' hk R' => hQ .normal s' ρ' a' w' hk R'
  | seq x y ihx ihy =>
    intro s K ρ a w Q h R hQ
    simp only [evC] at h
    refine wp_seq (ihx h R fun ex s' ρ' a' w' hk R' => ?_)
    cases ex with
    | normal =>
      obtain ⟨ρ2, s2, R2, h2⟩ := canonAt_ok R' hk
      exact ihy h2 R2 hQ
    | exit id => exact hQ (.exit id) s' ρ' a' w' hk R'
    | ret => exact hQ .ret s' ρ' a' w' hk R'
  | cond c x y ihx ihy =>
    intro s K ρ a w Q h R hQ
    simp only [evC] at h
    split at h
    · rename_i t ht
      have hc := opd_rep R.fr c
      rw [ht] at hc
      simp only [RepV] at hc
      refine wp_cond (t := t) hc ?_
      cases t with
      | true => exact ihx (by simpa using h) R hQ
      | false => exact ihy (by simpa using h) R hQ
    · cases h
  | block id c ih =>
    intro s K ρ a w Q h R hQ
    simp only [evC] at h
    refine wp_block (ih h R fun ex s' ρ' a' w' hk R' => ?_)
    cases ex with
    | normal => exact hQ .normal s' ρ' a' w' hk R'
    | exit id' =>
      simp only at hk
      simp only [Ex.out, Exit.inBlock]
      cases hb : Nat.beq id' id with
      | true =>
        rw [hb] at hk
        rw [if_pos (Nat.eq_of_beq_eq_true hb)]
        exact hQ .normal s' ρ' a' w' hk R'
      | false =>
        rw [hb] at hk
        rw [if_neg (fun e => by subst e; rw [Nat.beq_refl] at hb; cases hb)]
        exact hQ (.exit id') s' ρ' a' w' hk R'
    | ret => exact hQ .ret s' ρ' a' w' hk R'
  | loop c ih =>
    intro s K ρ a w Q h R hQ
    simp only [evC] at h
    obtain ⟨ρ1, s1, R1, h1⟩ := canonAt_ok R h
    refine wp_loop_fuel (fun k a w => ∃ s ρ, StR w0 M ρ s gv a w ∧ evLoop (evC P A cal inl f lf c) (canonAt A f c) k s K = some out) (fun k a w hI => ?_) ⟨s1, ρ1, R1, h1⟩
    obtain ⟨s, ρ, R, h⟩ := hI
    cases k with
    | zero => simp [evLoop] at h
    | succ k =>
      simp only [evLoop] at h
      refine ih h R fun ex s' ρ' a' w' hk R' => ?_
      cases ex with
      | normal =>
        obtain ⟨ρ2, s2, R2, h2⟩ := canonAt_ok R' hk
        exact ⟨k, Nat.lt_succ_self k, s2, ρ2, R2, h2⟩
      | exit id => exact hQ (.exit id) s' ρ' a' w' hk R'
      | ret => exact hQ .ret s' ρ' a' w' hk R'
  | exit id =>
    intro s K ρ a w Q h R hQ
    simp only [evC] at h
    exact wp_exit (hQ (.exit id) s ρ a w h R)
  | ret =>
    intro s K ρ a w Q h R hQ
    simp only [evC] at h
    exact wp_ret (hQ .ret s ρ a w h R)
  | _ =>
    intro s K ρ a w Q h R hQ
    simp [evC] at h
theorem RepDs.append {w : World} : ∀ {ds ds' : List D} {vs vs' : List Value} {F F' : Feet}, RepDs w ds vs F → RepDs w ds' vs' F' → RepDs w (ds ++ ds') (vs ++ vs') (F ++ F')
  | [], ds', vs, vs', F, F', h, h' => by simp only [RepDs] at h; obtain ⟨rfl, rfl⟩ := h; simpa using h'
  | d :: ds, ds', vs, vs', F, F', h, h' => by
    simp only [RepDs] at h
    obtain ⟨u, us, F1, F2, rfl, rfl, h1, h2⟩ := h
    simp only [List.cons_append, RepDs]
    exact ⟨u, us ++ vs', F1, F2 ++ F', rfl, by simp, h1, h2.append h'⟩
theorem muts_rep {ρ : Env} : ∀ (ms : List Bool) {cs : List AV} {vs : List Value}, RepVs ρ cs vs → RepVs ρ (muts ms cs) (muts ms vs)
  | ms, [], vs, h => by simp only [RepVs] at h; subst h; simp [muts, RepVs]
  | ms, c :: cs, vs, h => by
    simp only [RepVs] at h
    obtain ⟨u, us, rfl, h1, h2⟩ := h
    simp only [muts]
    split
    · exact RepVs.cons h1 (muts_rep ms.tail h2)
    · exact muts_rep ms.tail h2
theorem muts_length {α β : Type} : ∀ (ms : List Bool) {xs : List α} {ys : List β}, xs.length = ys.length → (muts ms xs).length = (muts ms ys).length
  | ms, [], [], _ => by simp [muts]
  | ms, [], _ :: _, h => by simp at h
  | ms, _ :: _, [], h => by simp at h
  | ms, x :: xs, y :: ys, h => by
    simp only [muts]
    have := muts_length ms.tail (xs := xs) (ys := ys) (by simpa using h)
    split <;> simp [this]
theorem sit0_of {α : Type} {p : Prog α} {s : St} {l : List Ac} {v : α} {ρ : Env} {gv : List Value} {a : Act} {w : World} {h' : List Ent} (R : StR w0 M ρ s gv a w) (h1 : Run cal p l v) (h2 : Cons l (ent s.h)) (h5 : ∀ id ∈ news l, s.h.length ≤ id ∧ id < h'.length) (h9 : (news l).Nodup) :
    Sit0 cal p l v ρ (ent s.h) := ⟨h1, h2, fun id hid => R.top id (h5 id hid).1, h9⟩
theorem leave_ok {fn : Func} {w : World} {F : Feet} {ms : List Bool} {ds : List D} {args us : List Value} {s : St} {ρ : Env} {a : Act} {w' : World} {out : List D} (hlen : (muts ms ds).length = (muts ms args).length)
    (R : StR w (ownOf F) ρ s (muts ms args ++ us) a w') (hro : RoVals w (muts ms ds) (muts ms args) us) (h : leave P cal fn (muts ms ds) s = some out) :
    ∃ v, (results fn a.tmps).run P w' = .ok v w' ∧ Post P fn ms ds out args F w (.returned v) w' := by
  unfold leave at h
  obtain ⟨l, v, h', R', W', h1, h2, h3, h4, h5, h6, h7, h8, h9⟩ := runP_run _ h
  have S := sit0_of R h1 h2 h5 h9
  have I := R.inv
  unfold leaveP at S
  obtain ⟨cs, vs, l1, S1, r1, hcs, hres⟩ := loadAll_ok I.ok R.fr fn.results.toList S
  obtain ⟨rs, q1, l2, S2, g1, r2⟩ := gmut_ok cs S1
  obtain ⟨md', q2, l3, S3, g2, r3⟩ := gmut_ok _ S2
  obtain ⟨hchk, S4⟩ := S3.chk
  obtain ⟨rfl, rfl⟩ := S4.ret
  simp only [Bool.and_eq_true] at hchk
  obtain ⟨⟨⟨hsep, hok⟩, hbeq⟩, hal⟩ := hchk
  rw [List.nil_append] at hsep
  have hpl : (muts ms ds).length ≤ s.pn.length := by have := R.pn.length; rw [List.length_append] at this; omega
  have hmut : RepVs ρ (s.pn.take (muts ms ds).length) (muts ms args) := by
    have := R.pn.take (muts ms ds).length
    rwa [List.take_left' (by rw [hlen])] at this
  have hpin : RepVs ρ (s.pn.drop (muts ms ds).length) us := by
    have := R.pn.drop (muts ms ds).length
    rwa [List.drop_left' (by rw [hlen])] at this
  obtain ⟨F1, hF1, hM1⟩ := Gats.rep I.ok cs g1 hcs
  obtain ⟨F2, hF2, hM2⟩ := Gats.rep I.ok _ g2 hmut
  have hM := hM1.append hM2
  have hsame : sameSl (roAts s.h (muts ms ds) (s.pn.take (muts ms ds).length)) (s.pn.drop (muts ms ds).length) = true := by
    cases hc : sameSl (roAts s.h (muts ms ds) (s.pn.take (muts ms ds).length)) (s.pn.drop (muts ms ds).length) with
    | true => rfl
    | false => rw [hc] at h4; cases h4
  rw [hsame] at h4
  simp only [cond_true, Option.some.injEq] at h4
  subst h4
  obtain ⟨hs1, hs2⟩ := sameSl_spec hsame
  have hro' := roAts_rep (w := w') I.ok (muts ms ds) (fun k => hmut.get k) (by rw [hs1]; exact hpin) hs2
  have hl : rs.length = fn.resultTypes.size := Nat.eq_of_beq_eq_true hbeq
  refine ⟨_, results_run hres, vs, F1 ++ F2, rfl, ?_, hF1.append hF2, hM.sep I.ok hsep, I.fr, ?_, ?_, ?_, roVals_same _ hro hro'.1⟩
  · rw [← hl, hF1.length]
  · rintro b off ⟨B, hB, ho, hf⟩
    obtain ⟨id, p, k1, k2, k3, k4⟩ := hM.mem B hB ho
    exact I.own id p k3 k2 b off (k4 _ _ hf)
  · -- the results' types
    have key : ∀ (ts : List TypeId) (rs md : List D), okTs P ts rs = true → okTs P ts (rs ++ md) = true := by
      intro ts
      induction ts with
      | nil => intro rs md _; cases rs <;> cases md <;> rfl
      | cons t ts ih =>
        intro rs md h
        cases rs with
        | nil => simp [okTs] at h
        | cons r rs =>
          simp only [okTs, Bool.and_eq_true, List.cons_append] at h ⊢
          exact ⟨h.1, ih rs md h.2⟩
    exact key _ _ _ hok
  · rw [← hl, List.drop_left]; exact hal
theorem level_ok (G : Good P) (hext : ∀ f g, A.ext f = some g → ∀ ds rs, g ds = some rs → Contract P f (A.mode f) ds rs) : ∀ k, CalOk P A (level P A k).cal ∧ InlOk P (level P A k).inl
  | 0 => ⟨fun f ds rs h => by simp [level] at h, fun w0 M f vs s K out ρ gv a w args h => by simp [level] at h⟩
  | k + 1 => by
    obtain ⟨ihc, ihi⟩ := level_ok G hext k
    refine ⟨fun f ds rs h => ?_, fun w0 M f vs s K out ρ gv a w args h R hv => ?_⟩
    · simp only [level] at h
      split at h
      · rename_i g hg; exact hext f g hg ds rs h
      · split at h
        · cases h
        · rename_i fn hfn
          split at h
          · cases h
          · rename_i c hc
            refine ⟨fn, hfn, by rw [hc]; rfl, fun w args F hr hs => ?_⟩
            obtain ⟨ρ, I, hv, htop⟩ := enter_ok hr hs
            have hvl := hv.length
            have hmv := muts_rep (A.mode f) hv
            have hlen : (muts (A.mode f) ds).length = (muts (A.mode f) args.toList).length := muts_length _ (by rw [hr.length])
            have hml := hmv.length
            obtain ⟨us, hus⟩ := roAts_ex I.ok (muts (A.mode f) ds) hmv
            cases hsame : sameSl (roAts (entDs ds []).2 (muts (A.mode f) ds) (muts (A.mode f) (entDs ds []).1)) (roAts (entDs ds []).2 (muts (A.mode f) ds) (muts (A.mode f) (entDs ds []).1)) with
            | false => rw [hsame] at h; cases h
            | true =>
              rw [hsame] at h
              simp only [cond_true] at h
              have hro := (roAts_rep (w := w) I.ok (muts (A.mode f) ds) (fun k => hmv.get k) hus (sameSl_spec hsame).2).1
              refine calls_of_wp hfn hc ?_
              have R : StR w (ownOf F) ρ (start fn (muts (A.mode f) ds) (muts (A.mode f) (entDs ds []).1) (entDs ds []).1 (entDs ds []).2) (muts (A.mode f) args.toList ++ us) { tmps := args ++ Array.replicate (fn.ntmps - args.size) undef, defers := [] } w := by
                refine ⟨?_, hmv.append hus, I, htop, rfl⟩
                simp only [start, Array.toList_append, Array.toList_replicate]
                rw [← hvl, Array.length_toList]
                exact hv.append (by simpa using RepVs.un (ρ := ρ) (List.replicate (fn.ntmps - args.size) undef))
              refine evC_ok G ihc ihi c h R fun ex s' ρ' a' w' hk R' => ?_
              cases ex with
              | exit id => cases hk
              | normal =>
                obtain ⟨v, h1, h2⟩ := leave_ok hlen R' hro hk
                exact ⟨R'.calm, v, h1, h2⟩
              | ret =>
                obtain ⟨v, h1, h2⟩ := leave_ok hlen R' hro hk
                exact ⟨R'.calm, v, h1, h2⟩
    · simp only [level] at h
      split at h
      · cases h
      · rename_i fn hfn
        split at h
        · cases h
        · rename_i c hc
          refine ⟨fn, hfn, by rw [hc]; rfl, calls_of_wp hfn hc ?_⟩
          have R1 : StR w0 M ρ ⟨vs ++ List.replicate (fn.ntmps - vs.length) .un, s.fr ++ s.pn, s.h⟩ (a.tmps.toList ++ gv) { tmps := args ++ Array.replicate (fn.ntmps - args.size) undef, defers := [] } w := by
            refine ⟨?_, R.fr.append R.pn, R.inv, R.top, rfl⟩
            have hvl := hv.length
            simp only [Array.toList_append, Array.toList_replicate]
            rw [← hvl, Array.length_toList]
            exact hv.append (by simpa using RepVs.un (ρ := ρ) (List.replicate (fn.ntmps - args.size) undef))
          refine evC_ok G ihc ihi c h R1 fun ex s' ρ' a' w' hk R' => ?_
          have fin : ∀ (hk : (runP (level P A k).cal (loadAll P s'.fr fn.results.toList fun vs => .ret (retV vs)) s'.h [] [] fun v h _ _ => K v ⟨s'.pn.take s.fr.length, s'.pn.drop s.fr.length, h⟩) = some out), a'.defers = [] ∧ ∃ v, (results fn a'.tmps).run P w' = .ok v w' ∧
              ∃ vv v' s'' ρ'', Ending.returned v = .returned vv ∧ K v' s'' = some out ∧ StR w0 M ρ'' s'' gv a w' ∧ RepV ρ'' v' vv := by
            intro hk
            obtain ⟨l, v, h', RR, WW, h1, h2, h3, h4, h5, h6, h7, h8, h9⟩ := runP_run _ hk
            have S := sit0_of R' h1 h2 h5 h9
            obtain ⟨cs, us, l1, S1, r1, hcs, hres⟩ := loadAll_ok R'.inv.ok R'.fr fn.results.toList S
            obtain ⟨e1, rfl⟩ := S1.ret
            obtain ⟨rl, hrl⟩ := r1
            subst e1
            rw [List.append_nil] at hrl
            have happ : appl l (ent s'.h) = ent s'.h := by
              rw [hrl]
              clear hrl
              induction rl with
              | nil => rfl
              | cons x rl ih => simpa [appl] using ih
            refine ⟨R'.calm, _, results_run hres, _, _, _, ρ', rfl, h4, ⟨?_, ?_, ?_, ?_, R.calm⟩, retV_rep hcs⟩
            · have := R'.pn.take s.fr.length
              rwa [List.take_left' R.fr.length] at this
            · have := R'.pn.drop s.fr.length
              rwa [List.drop_left' R.fr.length] at this
            · show Inv w0 M ρ' (ent h') w'
              rw [h3, happ]; exact R'.inv
            · intro id hid
              exact R'.top id (Nat.le_trans h6 hid)
          cases ex with
          | exit id => cases hk
          | normal => exact fin hk
          | ret => exact fin hk
theorem ev_contract (G : Good P) (hext : ∀ f g, A.ext f = some g → ∀ ds rs, g ds = some rs → Contract P f (A.mode f) ds rs) {k f : Nat} {ds rs : List D} (h : ev P A k f ds = some rs) : Contract P f (A.mode f) ds rs :=
  (level_ok G hext k).1 f ds rs h
end
#print axioms ev_contract
end Go.Ev
