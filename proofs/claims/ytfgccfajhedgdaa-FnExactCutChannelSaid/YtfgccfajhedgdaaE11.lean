/- The evaluator: every operation that calls no function. -/
import Derived.Test.YtfgccfajhedgdaaE10
import Derived.MapKept
namespace Go.Ev
set_option linter.unusedSimpArgs false
set_option linter.unusedVariables false
open Go Go.RowKit
section
variable {cal : Nat → List D → Option (List D)} {l : List Ac} {v : AV} {w0 : World} {M : Nat → Nat → Prop} {ρ : Env} {g : Hp} {w w' : World} {P : Program}
/-- one operation, run to its end -/
def NextOk (P : Program) (s : Sem Next) (l : List Ac) (v : AV) (w0 : World) (M : Nat → Nat → Prop) (ρ : Env) (g : Hp) (w : World) : Prop :=
  ∃ n vv w', s.run P w = .ok n w' ∧ (n = .value vv ∨ (n = .skip ∧ vv = undef)) ∧ Fin w0 M l g ρ w' (fun ρ' => RepV ρ' v vv)
theorem NextOk.of {s : Sem Value} (h : SemOk P s l v w0 M ρ g w) : NextOk P (do pure (.value (← s))) l v w0 M ρ g w := by
  obtain ⟨vv, w', h1, h2⟩ := h
  exact ⟨.value vv, vv, w', by simp [h1], .inl rfl, h2⟩
theorem fixT_ret {t : TypeId} {x : AV} {xv : Value} (S : Sit cal (fixT P t x .ret) l v w0 M ρ g w) (hx : RepV ρ x xv) : Fin w0 M l g ρ w (fun ρ' => RepV ρ' v xv) := by
  obtain ⟨c, l1, g1, ρ1, S1, hc, hs, hF⟩ := fixT_ok S hx
  exact hF _ _ (ret_ok S1 hc)
theorem parts_rep {fr : List AV} {a : Act} (h : RepVs ρ fr a.tmps.toList) (ps : Array (Nat × Operand)) :
    RepP ρ (ps.toList.map fun (i, x) => (i, opd fr x)) (ps.map fun (i, x) => (i, a.eval x)).toList := by
  obtain ⟨ps⟩ := ps
  simp only [List.map_toArray]
  induction ps with
  | nil => simp [RepP]
  | cons x xs ih => simp only [List.map_cons, RepP]; exact ⟨_, _, rfl, rfl, opd_rep h _, ih⟩
theorem optRep {fr : List AV} {a : Act} (h : RepVs ρ fr a.tmps.toList) (x : Option Operand) : RepO ρ (x.map (opd fr)) (x.map a.eval) := by
  cases x with
  | none => trivial
  | some x => exact opd_rep h x
theorem key_of {k : AV} {x : Int × Int × Int} {v : Value} (h : k.key = some x) (r : RepV ρ k v) : v = key3 x := by
  unfold AV.key at h
  split at h
  · cases h
    simp only [RepV, RepVs] at r
    obtain ⟨vs, rfl, _, _, e1, rfl, _, _, rfl, rfl, _, _, rfl, rfl, rfl⟩ := r
    simp only [key3]
    congr 1
    exact Array.ext' (by simpa using e1)
  · cases h
theorem okF_some {f : Field} {i : Nat} (h : okF P f i = true) : f.name ≠ "_" ∧ P.underlying f.type = some (.int .i64) ∧ under P f.type = .int .i64 ∧ f.offset = i ∧ P.cellsOf f.type = 1 := by
  unfold okF at h
  split at h
  · cases h
  · rename_i hn
    split at h
    · rename_i hu
      rw [Bool.and_eq_true] at h
      exact ⟨hn, under_some hu (by simp), hu, Nat.eq_of_beq_eq_true h.1, Nat.eq_of_beq_eq_true h.2⟩
    · cases h
theorem keyOk_some {k : TypeId} (h : keyOk P k = true) : ∃ fs f1 f2 f3, under P k = .struct fs ∧ P.underlying k = some (.struct fs) ∧ fs = #[f1, f2, f3] ∧ P.stoodInHeld k = false ∧ okF P f1 0 = true ∧ okF P f2 1 = true ∧ okF P f3 2 = true := by
  unfold keyOk at h
  split at h
  · rename_i fs hu
    split at h
    · rename_i f1 f2 f3 hf
      simp only [Bool.and_eq_true, Bool.not_eq_true'] at h
      exact ⟨fs, f1, f2, f3, hu, under_some hu (by simp), Array.ext' (by simpa using hf), h.1, h.2.1, h.2.2.1, h.2.2.2⟩
    · cases h
  · cases h
theorem run_part3 {f : Field} {i : Nat} (h : okF P f i = true) (x : Int × Int × Int) (hi : i < 3) : (part f.type #[.int .i64 x.1, .int .i64 x.2.1, .int .i64 x.2.2] f.offset).run P w = .ok (.int .i64 (if i = 0 then x.1 else if i = 1 then x.2.1 else x.2.2)) w := by
  obtain ⟨h1, h2, h3, h4, h5⟩ := okF_some h
  have hk : known P f.type = true := by simp [known, h3]
  have ha : isAggT P f.type = false := by simp [isAggT, h3, isAggD]
  rw [run_part hk _ _ (fun _ => by rw [h4, h5]; simp; omega), ha, h4, h5]
  have : i = 0 ∨ i = 1 ∨ i = 2 := by omega
  rcases this with rfl | rfl | rfl <;> simp [ofCells]
theorem run_checkInt {t : TypeId} (h : P.underlying t = some (.int .i64)) (em : Bool) (n : Nat) (x : Int) : (Instr.checkKey em (n + 1) t (.int .i64 x)).run P w = .ok () w := by
  simp [Instr.checkKey, run_underlying h]
theorem run_checkKey3 {k : TypeId} (h : keyOk P k = true) (em : Bool) (x : Int × Int × Int) : (Instr.checkKey em 10000 k (key3 x)).run P w = .ok () w := by
  obtain ⟨fs, f1, f2, f3, hu, hk, rfl, hs, o1, o2, o3⟩ := keyOk_some h
  show (Instr.checkKey em (9999 + 1) k (key3 x)).run P w = .ok () w
  unfold Instr.checkKey
  have c1 := run_checkInt (w := w) (okF_some o1).2.1 em 9998
  have c2 := run_checkInt (w := w) (okF_some o2).2.1 em 9998
  have c3 := run_checkInt (w := w) (okF_some o3).2.1 em 9998
  simp [run_underlying hk, key3, (okF_some o1).1, (okF_some o2).1, (okF_some o3).1, run_part3 o1 x (by omega), run_part3 o2 x (by omega), run_part3 o3 x (by omega), c1, c2, c3]
theorem key3_inj {x y : Int × Int × Int} (h : key3 x = key3 y) : x = y := by
  simp [key3] at h
  obtain ⟨a, b, c⟩ := x
  obtain ⟨d, e, f⟩ := y
  simp at h
  simp [h]
theorem eqK_iff (x y : Int × Int × Int) : eqK x y = true ↔ key3 x = key3 y := by
  simp only [eqK, Bool.and_eq_true, decide_eq_true_eq]
  constructor
  · rintro ⟨h1, h2, h3⟩; simp [key3, h1, h2, h3]
  · intro h; have := key3_inj h; subst this; simp
theorem eqD_key {k : TypeId} (h : keyOk P k = true) (x y : Int × Int × Int) : eqD P 2 k [.int .i64 x.1, .int .i64 x.2.1, .int .i64 x.2.2] [.int .i64 y.1, .int .i64 y.2.1, .int .i64 y.2.2] = some (eqK x y) := by
  obtain ⟨fs, f1, f2, f3, hu, hk, rfl, hs, o1, o2, o3⟩ := keyOk_some h
  obtain ⟨a1, a2, a3, a4, a5⟩ := okF_some o1
  obtain ⟨b1, b2, b3, b4, b5⟩ := okF_some o2
  obtain ⟨c1, c2, c3, c4, c5⟩ := okF_some o3
  have e1 : ∀ (t : TypeId) (p q : Int), under P t = .int .i64 → eqD P 1 t [.int .i64 p] [.int .i64 q] = some (decide (p = q)) := fun t p q ht => by simp [eqD, ht]
  have e2 : ∀ (xs ys : List AV), eqD P (1 + 1) k xs ys = [f1, f2, f3].foldr (init := some true) fun f acc => if f.name = "_" then acc else
        match eqD P 1 f.type ((xs.drop f.offset).take (P.cellsOf f.type)) ((ys.drop f.offset).take (P.cellsOf f.type)), acc with
        | some b, some c => some (b && c)
        | _, _ => none := fun xs ys => by
    conv => lhs; unfold eqD
    simp only [hu, hs, Bool.false_eq_true, if_false]
    rfl
  rw [e2]
  simp only [List.foldr_cons, List.foldr_nil, a1, b1, c1, a4, b4, c4, a5, b5, c5, if_false]
  simp [e1 _ _ _ a3, e1 _ _ _ b3, e1 _ _ _ c3, eqK]
theorem run_equal3 {k : TypeId} (h : keyOk P k = true) (x y : Int × Int × Int) : (Op.equal k (key3 x) (key3 y)).run P w = .ok (eqK x y) w := by
  obtain ⟨fs, f1, f2, f3, hu, hk, rfl, hs, o1, o2, o3⟩ := keyOk_some h
  have ha : isAggT P k = true := by simp [isAggT, hu, isAggD]
  have := (eqD_ok (ρ := fun _ => none) (w := w) 2 k _ _ [.int .i64 x.1, .int .i64 x.2.1, .int .i64 x.2.2] [.int .i64 y.1, .int .i64 y.2.1, .int .i64 y.2.2] _ (Op.maxDepth - 2) (eqD_key h x y) (by simp [RepVs, RepV]) (by simp [RepVs, RepV])).1
  simp only [ha, ofCells, if_true] at this
  exact this
theorem run_findAsking3 {k : TypeId} (h : keyOk P k = true) (x : Int × Int × Int) : ∀ (es : List MapEntry) (i : Nat), (∀ e ∈ es, ∃ y, e.key = key3 y) →
    ((Instr.findAsking k (key3 x) es i).run P w = .ok none w ∧ ∀ e ∈ es, e.key ≠ key3 x) ∨ ∃ j e, (Instr.findAsking k (key3 x) es i).run P w = .ok (some (i + j, e.val)) w ∧ es[j]? = some e ∧ e.key = key3 x
  | [], i, _ => .inl ⟨by simp [Instr.findAsking], by simp⟩
  | e :: es, i, hk => by
    obtain ⟨y, hy⟩ := hk e (by simp)
    unfold Instr.findAsking
    simp only [Sem.run_bind, hy, run_equal3 h, Result.andThen_ok]
    by_cases hxy : eqK x y = true
    · right
      exact ⟨0, e, by simp [hxy], by simp, by rw [hy, (eqK_iff x y).1 hxy]⟩
    · have hne : key3 x ≠ key3 y := fun e => hxy ((eqK_iff x y).2 e)
      rw [Bool.not_eq_true] at hxy
      simp only [hxy, Bool.false_eq_true, if_false]
      rcases run_findAsking3 h x es (i + 1) (fun e he => hk e (by simp [he])) with ⟨h1, h2⟩ | ⟨j, e', h1, h2, h3⟩
      · left
        refine ⟨h1, fun e' he' => ?_⟩
        rcases List.mem_cons.1 he' with rfl | he'
        · rw [hy]; exact fun e => hne e.symm
        · exact h2 e' he'
      · right
        exact ⟨j + 1, e', by rw [h1]; congr 3; omega, by simpa using h2, h3⟩
theorem run_findKey3 {k : TypeId} (h : keyOk P k = true) (x : Int × Int × Int) (es : List MapEntry) (hk : ∀ e ∈ es, ∃ y, e.key = key3 y) :
    ((Instr.findKey k (key3 x) es).run P w = .ok none w ∧ ∀ e ∈ es, e.key ≠ key3 x) ∨ ∃ j e, (Instr.findKey k (key3 x) es).run P w = .ok (some (j, e.val)) w ∧ es[j]? = some e ∧ e.key = key3 x := by
  obtain ⟨fs, f1, f2, f3, hu, hkk, rfl, hs, o1, o2, o3⟩ := keyOk_some h
  cases es with
  | nil => exact .inl ⟨by simp [Instr.findKey, run_underlying hkk, Instr.findNow], by simp⟩
  | cons e es =>
    have hfn : Instr.findNow (.struct #[f1, f2, f3]) (key3 x) (e :: es) 0 = none := by
      obtain ⟨y, hy⟩ := hk e (by simp)
      simp [Instr.findNow, hy, key3, Instr.sameNow]
    have := run_findAsking3 (w := w) h x (e :: es) 0 hk
    simp only [Nat.zero_add] at this
    simp only [Instr.findKey, Sem.run_bind, run_underlying hkk, Result.andThen_ok, hfn]
    exact this
theorem run_stays3 (x : Int × Int × Int) : (Instr.keyThatStays (key3 x) (key3 x)).run P w = .ok (key3 x) w := by
  have : Instr.sameBits 10000 (key3 x) (key3 x) = true := by
    show Instr.sameBits (9999 + 1) (key3 x) (key3 x) = true
    simp [key3, Instr.sameBits]
  simp [Instr.keyThatStays, this]
theorem MapRep.keys {es : Array MapEntry} {l : List (Int × Int × Int)} (h : MapRep es l) : ∀ e ∈ es.toList, ∃ y, e.key = key3 y := fun e he => let ⟨_, k, _, hk⟩ := h.1 e he; ⟨k, hk⟩
theorem mapNew_ok {t : TypeId} (S : Sit cal (mapNewP P t) l v w0 M ρ g w) : SemOk P (Instr.makeMap t none) l v w0 M ρ g w := by
  unfold mapNewP at S
  split at S
  · rename_i k e hu
    have S1 := S.chk; clear S; obtain ⟨hc, S⟩ := S1
    refine ⟨_, _, rfl, ?_⟩
    obtain ⟨id, l', rfl, hn, hdd, hS⟩ := S.new
    have I := S.inv.new (id := id) (p := ⟨some ⟨w.heap.size, 0, none⟩, 0, 0, 0⟩) (e := .mp []) hn (fr_alloc w (.map #[] 0))
      ⟨_, #[], 0, rfl, (MapKept.heap_alloc w _).1, by simp [MapRep]⟩ (.inl ⟨rfl, fun b off hf => by obtain ⟨x, hx, rfl⟩ := hf; cases hx; exact Nat.le_refl _⟩)
    obtain ⟨rfl, rfl⟩ := (hS _ _ I).ret
    refine Fin.new hn (Fin.here I ?_)
    simp only [RepV]
    exact ⟨_, _, updρ_same _ _ _, rfl, rfl⟩
  · exact S.fail
theorem fr_map {b : Nat} {es es' : Array MapEntry} {c c' : Nat} (h : w.heap[b]? = some (.map es c)) : Fr (fun b' _ => b' = b) w { w with heap := w.heap.setIfInBounds b (.map es' c') } := by
  refine ⟨rfl, rfl, rfl, by simp, fun i hi => ?_⟩
  by_cases hib : i = b
  · subst hib
    exact .inr (.inr ⟨es, c, es', c', h, by simp [hi], rfl⟩)
  · exact .inr (.inl (by simp [Array.getElem?_setIfInBounds, Ne.symm hib]))
theorem mapPut_ok {t : TypeId} {m k x : AV} {mv kv xv : Value} (S : Sit cal (mapPutP P t m k x) l v w0 M ρ g w) (hm : RepV ρ m mv) (hk : RepV ρ k kv) (hx : RepV ρ x xv) :
    v = .un ∧ ∃ w', (Instr.mapUpdate t mv kv xv).run P w = .ok () w' ∧ Fin w0 M l g ρ w' (fun _ => True) := by
  unfold mapPutP at S
  split at S
  · rename_i kt et id y hu hkey
    have hun := under_some hu (by simp)
    have S1 := S.chk; clear S; obtain ⟨hc, S⟩ := S1
    have S0 := S.rd; clear S; obtain ⟨l2, rfl, S⟩ := S0
    simp only [RepV] at hx
    subst hx
    have := key_of hkey hk
    subst this
    simp only [RepV] at hm
    obtain ⟨p, a, hp, hb, rfl⟩ := hm
    split at S
    · rename_i ls hg
      obtain ⟨q, hq, hr⟩ := S.inv.ok.rep id (by rw [hg]; simp)
      rw [hp] at hq; cases hq
      rw [hg] at hr
      obtain ⟨a', es, ck, hb', hes, hmr⟩ := hr
      rw [hb] at hb'; cases hb'
      obtain ⟨l3, rfl, _, hS⟩ := S.wr
      have main : ∀ es' ck', MapRep es' (ls ++ [y]) → (Instr.mapUpdate t (.map (some a.block)) (key3 y) (.bool true)).run P w = .ok () { w with heap := w.heap.setIfInBounds a.block (.map es' ck') } →
          v = .un ∧ ∃ w', (Instr.mapUpdate t (.map (some a.block)) (key3 y) (.bool true)).run P w = .ok () w' ∧ Fin w0 M (.rd id (g id) :: .wr id (.mp (ls ++ [y])) :: l3) g ρ w' (fun _ => True) := by
        intro es' ck' hmr' hrun
        have hlt := (Array.getElem?_eq_some_iff.1 hes).1
        have I := S.inv.turn (id := id) (p := p) (e := .mp (ls ++ [y])) hp (by rw [hg]; rfl) (fr_map (es' := es') (c' := ck') hes) (fun b off h => by rw [hg]; exact ⟨a, hb, h.symm⟩)
          ⟨a, es', ck', hb, by simp [hlt], hmr'⟩ (fun b off h => by rw [hg]; exact h)
        obtain ⟨rfl, rfl⟩ := (hS _ I).ret
        exact ⟨rfl, _, hrun, ((Fin.here I trivial).wr).rd⟩
      have hget : (getObj a.block).run P w = .ok (.map es ck) w := by simp [getObj, Sem.run, hes]
      have hset : ∀ o : Obj, (setObj a.block o).run P w = .ok () { w with heap := w.heap.setIfInBounds a.block o } := fun o => by simp [setObj, Sem.run, hes]
      rcases run_findKey3 (w := w) hc y es.toList hmr.keys with ⟨h1, h2⟩ | ⟨j, e, h1, h2, h3⟩
      · refine main (es.push { key := key3 y, val := .bool true, born := ck }) (ck + 1) ⟨fun e he => ?_, fun k hk => ?_⟩ ?_
        · simp only [Array.toList_push, List.mem_append, List.mem_singleton] at he
          rcases he with he | rfl
          · obtain ⟨e1, k, hk, e2⟩ := hmr.1 e he
            exact ⟨e1, k, by simp [hk], e2⟩
          · exact ⟨rfl, y, by simp, rfl⟩
        · rcases List.mem_append.1 hk with hk | hk
          · obtain ⟨e, he, e2⟩ := hmr.2 k hk
            exact ⟨e, by simp [he], e2⟩
          · rw [List.mem_singleton.1 hk]
            exact ⟨_, by simp; exact .inr rfl, rfl⟩
        · simp only [Instr.mapUpdate, Sem.run_bind, run_underlying hun, Result.andThen_ok, hget, run_checkKey3 hc, h1, hset]
      · have hj : es[j]? = some e := by simpa using h2
        refine main (es.modify j fun e => { e with key := key3 y, val := .bool true }) ck ⟨fun e' he' => ?_, fun k hk => ?_⟩ ?_
        · rw [Array.mem_toList_iff] at he'
          obtain ⟨i, hi, rfl⟩ := Array.getElem_of_mem he'
          simp only [Array.size_modify] at hi
          rw [Array.getElem_modify]
          by_cases hij : j = i
          · rw [if_pos hij]; exact ⟨rfl, y, by simp, rfl⟩
          · rw [if_neg hij]
            obtain ⟨e1, k, hk, e2⟩ := hmr.1 es[i] (by simp)
            exact ⟨e1, k, by simp [hk], e2⟩
        · have : ∃ e ∈ es.toList, e.key = key3 k := by
            rcases List.mem_append.1 hk with hk | hk
            · exact hmr.2 k hk
            · rw [List.mem_singleton.1 hk]
              exact ⟨e, by simpa using Array.mem_of_getElem? hj, h3⟩
          obtain ⟨e', he', e2⟩ := this
          rw [Array.mem_toList_iff] at he'
          obtain ⟨i, hi, rfl⟩ := Array.getElem_of_mem he'
          refine ⟨(es.modify j fun e => { e with key := key3 y, val := .bool true })[i]'(by simpa using hi), Array.mem_toList_iff.2 (Array.getElem_mem _), ?_⟩
          rw [Array.getElem_modify]
          by_cases hij : j = i
          · rw [if_pos hij]
            subst hij
            rw [Array.getElem?_eq_getElem hi] at hj
            cases hj
            rw [← e2, h3]
          · rw [if_neg hij]; exact e2
        · simp only [Instr.mapUpdate, Sem.run_bind, run_underlying hun, Result.andThen_ok, hget, run_checkKey3 hc, h1, hj, Option.map_some, Option.getD_some, h3, run_stays3, hset]
    · exact S.fail
  · exact S.fail
theorem hasK_iff {es : Array MapEntry} {ls : List (Int × Int × Int)} (h : MapRep es ls) (y : Int × Int × Int) : hasK ls y = true ↔ ∃ e ∈ es.toList, e.key = key3 y := by
  simp only [hasK, List.any_eq_true, eqK_iff]
  constructor
  · rintro ⟨k, hk, e⟩
    rw [e]; exact h.2 k hk
  · rintro ⟨e, he, hk⟩
    obtain ⟨_, k, hk', e2⟩ := h.1 e he
    exact ⟨k, hk', by rw [← hk, e2]⟩
theorem mapGet_ok {t : TypeId} {m k : AV} {mv kv : Value} (S : Sit cal (mapGetP P t m k) l v w0 M ρ g w) (hm : RepV ρ m mv) (hk : RepV ρ k kv) : SemOk P (Instr.lookup t mv kv false) l v w0 M ρ g w := by
  unfold mapGetP at S
  split at S
  · rename_i kt et id y hu hkey
    have hun := under_some hu (by simp)
    split at S
    · rename_i hz
      have S1 := S.chk; clear S; obtain ⟨hc, S⟩ := S1
      have S0 := S.rd; clear S; obtain ⟨l2, rfl, S⟩ := S0
      have := key_of hkey hk
      subst this
      simp only [RepV] at hm
      obtain ⟨p, a, hp, hb, rfl⟩ := hm
      split at S
      · rename_i ls hg
        obtain ⟨q, hq, hr⟩ := S.inv.ok.rep id (by rw [hg]; simp)
        rw [hp] at hq; cases hq
        rw [hg] at hr
        obtain ⟨a', es, ck, hb', hes, hmr⟩ := hr
        rw [hb] at hb'; cases hb'
        have hzero : (zeroValue et).run P w = .ok (.bool false) w := by
          cases hi : P.info? et with
          | none => rw [hi] at hz; cases hz
          | some i =>
            rw [hi] at hz
            simp only [Option.bind_some] at hz
            simp [zeroValue, typeInfo, hi, hz]
        have hget : (getObj a.block).run P w = .ok (.map es ck) w := by simp [getObj, Sem.run, hes]
        have hres : (Instr.lookup t (.map (some a.block)) (key3 y) false).run P w = .ok (.bool (hasK ls y)) w := by
          rcases run_findKey3 (w := w) hc y es.toList hmr.keys with ⟨h1, h2⟩ | ⟨j, e, h1, h2, h3⟩
          · have hno : hasK ls y = false := by
              rw [← Bool.not_eq_true, hasK_iff hmr]
              rintro ⟨e, he, hk⟩
              exact h2 e he hk
            rw [hno]
            simp only [Instr.lookup, Sem.run_bind, run_underlying hun, Result.andThen_ok, hget, Sem.run_pure, run_checkKey3 hc, h1, hzero]
            rfl
          · have hyes : hasK ls y = true := (hasK_iff hmr y).2 ⟨e, List.mem_of_getElem? h2, h3⟩
            rw [hyes]
            have hv := (hmr.1 e (List.mem_of_getElem? h2)).1
            simp only [Instr.lookup, Sem.run_bind, run_underlying hun, Result.andThen_ok, hget, Sem.run_pure, run_checkKey3 hc, h1, hv]
            rfl
        exact ⟨_, w, hres, (ret_ok S (by simp [RepV])).rd⟩
      · exact S.fail
    · exact S.fail
  · exact S.fail
theorem step_ok {A : Ann} {o : Oper} {fr : List AV} {a : Act} (hc : ∀ c f, o.op = .call c → c.callee ≠ .value f) (h : RepVs ρ fr a.tmps.toList) (S : Sit cal (stepP P A o fr) l v w0 M ρ g w) :
    NextOk P (execOp a.eval o) l v w0 M ρ g w := by
  obtain ⟨dst, op, type, pos, after, guard⟩ := o
  unfold stepP at S
  cases op <;> simp only at S <;> simp only [execOp]
  case move x => exact ⟨_, _, w, rfl, .inl rfl, fixT_ret S (opd_rep h x)⟩
  case assign x => exact ⟨_, _, w, rfl, .inl rfl, fixT_ret S (opd_rep h x)⟩
  case pick c x y =>
    have hcr := opd_rep h c
    split at S
    · rename_i b hb
      rw [hb] at hcr
      simp only [RepV] at hcr
      have S0 := S.br
      clear S
      rcases S0 with ⟨rfl, S⟩ | ⟨rfl, S⟩
      · exact ⟨.value (a.eval x), _, w, by simp [hcr, asBool], .inl rfl, fixT_ret S (opd_rep h x)⟩
      · exact ⟨.value (a.eval y), _, w, by simp [hcr, asBool], .inl rfl, fixT_ret S (opd_rep h y)⟩
    · exact S.fail
  case alloc t => exact NextOk.of (alloc_ok S)
  case box t x => exact NextOk.of (box_ok S (opd_rep h x))
  case build t ps => exact NextOk.of (buildP_ok S (parts_rep h ps))
  case buildSlice t n ps => exact NextOk.of (buildSliceP_ok S (parts_rep h ps))
  case load t x => exact NextOk.of (loadP_ok S (opd_rep h x))
  case store t x y =>
    obtain ⟨rfl, w', h1, h2⟩ := storeP_ok S (opd_rep h x) (opd_rep h y)
    refine ⟨.skip, undef, w', by simp [h1], .inr ⟨rfl, rfl⟩, ?_⟩
    obtain ⟨ρ', k1, k2, k3, _⟩ := h2
    exact ⟨ρ', k1, k2, k3, by simp [RepV]⟩
  case nilCheck x =>
    have hx := opd_rep h x
    split at S
    · rename_i id i o e
      rw [e] at hx
      have hx' := hx
      simp only [RepV] at hx
      obtain ⟨p, y, hp, hb, hi, hv⟩ := hx
      exact ⟨_, _, w, by rw [hv]; rfl, .inl rfl, ret_ok S (by rw [← hv]; exact hx')⟩
    · rename_i f cs e
      rw [e] at hx
      have hx' := hx
      simp only [RepV] at hx
      obtain ⟨vs, hv, hr⟩ := hx
      exact ⟨_, _, w, by rw [hv]; rfl, .inl rfl, ret_ok S (by rw [← hv]; exact hx')⟩
    · exact S.fail
  case binOp op t x y b => exact NextOk.of (binP_ok S (opd_rep h x) (opd_rep h y))
  case unOp op t x => exact NextOk.of (unP_ok S (opd_rep h x))
  case convert s d x => exact NextOk.of (convP_ok S (opd_rep h x))
  case makeFunc fn first caps =>
    split at S <;> try exact S.fail
    all_goals (rename_i he; try cases he)
    rename_i f
    split at S
    · rename_i hf
      have hf' : first.map a.eval = #[] := by simp at hf; simp [hf]
      refine ⟨.value (.func (.func f) #[] (caps.map a.eval)), _, w, ?_, .inl rfl, ret_ok S ?_⟩
      · rw [hf']; rfl
      · simp only [RepV]; exact ⟨_, rfl, operands_rep h caps⟩
    · exact S.fail
  case makeSlice t x y => exact NextOk.of (makeSliceP_ok S (opd_rep h x) (opd_rep h y))
  case slice t x lo hi mx => exact NextOk.of (sliceP_ok S (opd_rep h x) (optRep h lo) (optRep h hi) (optRep h mx))
  case fieldAddr s x f => exact NextOk.of (fieldAddr_ok S (opd_rep h x))
  case field t x f => exact NextOk.of (fieldP_ok S (opd_rep h x))
  case indexAddr t x ix => exact NextOk.of (indexAddrP_ok S (opd_rep h x) (opd_rep h ix))
  case index t x ix => exact NextOk.of (indexP_ok S (opd_rep h x) (opd_rep h ix))
  case extract x i =>
    have hx := opd_rep h x
    split at S
    · rename_i vs e
      rw [e] at hx
      simp only [RepV] at hx
      obtain ⟨us, hv, hr⟩ := hx
      split at S
      · rename_i c hci
        obtain ⟨u, hu, hcu⟩ := hr.get? hci
        refine ⟨.value u, u, w, ?_, .inl rfl, ret_ok S hcu⟩
        rw [hv]
        simp only [Array.getElem?_toList] at hu
        simp [Instr.extract, hu]
      · exact S.fail
    · exact S.fail
  case call c =>
    split at S
    · rename_i b hb
      have hr := operands_rep h c.args
      unfold builtinP at S
      simp only [resolve, hb, Sem.run_bind, Sem.run_pure]
      split at S
      · rename_i t x ht hx
        rw [hx] at hr
        have hts : c.argTypes = #[t] := by cases e : c.argTypes; rw [e] at ht; simp at ht; rw [ht]
        simp only [RepVs] at hr
        obtain ⟨u, us, e1, h1, h2⟩ := hr
        exact NextOk.of (lenP_ok (P := P) (ts := c.argTypes) (ty := type) (vs := c.args.map a.eval) (by rw [hts]; rfl) (by rw [← Array.getElem?_toList, e1]; rfl) S h1)
      · rename_i t t2 s x ht hx
        rw [hx] at hr
        have hts : c.argTypes = #[t, t2] := by cases e : c.argTypes; rw [e] at ht; simp at ht; rw [ht]
        simp only [RepVs] at hr
        obtain ⟨u, us, e1, h1, u2, us2, rfl, h2, rfl⟩ := hr
        have hvs : c.args.map a.eval = #[u, u2] := by cases e : c.args.map a.eval; rw [e] at e1; simp at e1; rw [e1]
        simp only [invoke, builtin]
        rw [hvs, hts]
        exact NextOk.of (appendP_ok S h1 h2)
      · exact NextOk.of (maxP_ok S hr)
      · exact NextOk.of (minP_ok S hr)
      · exact S.fail
    · rename_i f hf
      exact absurd hf (hc c f rfl)
    · exact S.fail
  case makeMap t r =>
    cases r with
    | none => exact NextOk.of (mapNew_ok S)
    | some r => exact S.fail
  case mapUpdate t m k x =>
    obtain ⟨rfl, w', h1, h2⟩ := mapPut_ok S (opd_rep h m) (opd_rep h k) (opd_rep h x)
    refine ⟨.skip, undef, w', by simp [h1], .inr ⟨rfl, rfl⟩, ?_⟩
    obtain ⟨ρ', k1, k2, k3, _⟩ := h2
    exact ⟨ρ', k1, k2, k3, by simp [RepV]⟩
  case lookup t m k ok =>
    cases ok with
    | false => exact NextOk.of (mapGet_ok S (opd_rep h m) (opd_rep h k))
    | true => exact S.fail
  all_goals (first | exact S.fail | (cases S.run))
end
end Go.Ev
