/- The evaluator: conversions; every operation that calls no function. The evaluator: every operation that calls no function. The evaluator: what data stands for in memory; entering with data. -/
import Derived.Test.YtcaapedadpnjoaaE9
import Derived.Laws.IdiomStrings
import Derived.MapKept
namespace Go.Ev
set_option linter.unusedSimpArgs false
set_option linter.unusedVariables false
open Go Go.RowKit
section
variable {cal : Nat → List D → Option (List D)} {l : List Ac} {v : AV} {w0 : World} {M : Nat → Nat → Prop} {ρ : Env} {g : Hp} {w w' : World} {P : Program}
theorem foldl_push (ns : List Int) : ∀ r : ByteArray, ns.foldl (fun r n => r.push (UInt8.ofNat n.toNat)) r = ⟨r.data ++ (ns.map fun n => UInt8.ofNat n.toNat).toArray⟩ := by
  induction ns with
  | nil => intro r; simp
  | cons n ns ih => intro r; rw [List.foldl_cons, ih]; simp [ByteArray.push]
theorem bytesToString_ok {x : Option Addr} {c : Nat} {ns : List Int} (h : ns.length ≠ 0 → ∃ b, x = some b ∧ CellsL w b (ns.map (Value.int .u8))) :
    (Conv.bytesToString (.slice x ns.length c)).run P w = .ok (.string (strL ns)) w := by
  have he : ByteArray.empty.data = #[] := rfl
  cases x with
  | none =>
    have : ns = [] := by
      rcases ns with _ | ⟨n, ns⟩
      · rfl
      · obtain ⟨b, hb, _⟩ := h (by simp); cases hb
    subst this
    simp [Conv.bytesToString, strL]; rfl
  | some a =>
    have hl := run_loadCells_list (P := P) w a (ns.map (Value.int .u8)) (fun j v hj => by
      rcases ns with _ | ⟨n, ns⟩
      · simp at hj
      · obtain ⟨b, hb, hc⟩ := h (by simp)
        cases hb
        exact hc j v hj)
    rw [List.length_map] at hl
    rw [run_bytesToString w a ns.length c ns hl, foldl_push, he]
    simp [strL]
theorem convP_ok {src dst : TypeId} {x : AV} {xv : Value} (S : Sit cal (convP P src dst x) l v w0 M ρ g w) (hx : RepV ρ x xv) :
    SemOk P (convert src dst xv) l v w0 M ρ g w := by
  unfold convP at S
  split at S
  · rename_i hs hd
    have hs := under_some hs (by simp)
    have hd := under_some hd (by simp)
    simp only [RepV] at hx
    subst hx
    exact ⟨_, w, by simp [convert, run_underlying hs, run_underlying hd, Conv.intToInt]; rfl, ret_ok S (by simp [RepV])⟩
  · rename_i hs hd
    have hs := under_some hs (by simp)
    have hd := under_some hd (by simp)
    simp only [RepV] at hx
    subst hx
    exact ⟨_, w, by simp [convert, run_underlying hs, run_underlying hd]; rfl, ret_ok S (by simp [RepV])⟩
  · rename_i e s hs hd
    have hs := under_some hs (by simp)
    have hd := under_some hd (by simp)
    simp only [RepV] at hx
    subst hx
    split at S
    · rename_i he
      have he := under_some he (by simp)
      refine ⟨_, _, run_bytes_of_string w src dst e s hs hd he, ?_⟩
      obtain ⟨id, l', rfl, hn, hdd, hS⟩ := S.new
      have hsz : s.data.size = s.size := rfl
      have hbl : (bytesL s).length = s.size := by simp only [bytesL, List.length_map, Array.length_toList]; rfl
      have hfr : Fr (fun _ _ => False) w (w.drew.alloc (.cells (bytesRow s (grownCap w s.size 0 e)) e ((bytesRow s (grownCap w s.size 0 e)).size, (bytesRow s (grownCap w s.size 0 e)).size + 1))) :=
        (fr_drew w).trans (fr_alloc w.drew _)
      have I := S.inv.new (id := id) (p := ⟨some ⟨w.heap.size, 0, none⟩, s.size, grownCap w s.size 0 e, 1, []⟩) (e := .arr false false (.ints .u8 (bytesL s))) hn hfr
        ⟨hbl, rfl, by simp, by simp, by
          intro x hx
          cases hx
          refine ⟨grownCap_ge _ _ _ _, ?_⟩
          intro j u hj
          have had : (⟨w.heap.size, 0, none⟩ : Addr).add j = ⟨w.heap.size, j, none⟩ := by unfold Addr.add; split <;> simp_all
          rw [had]
          have := World.cell?_alloc_mark w.drew (bytesRow s (grownCap w s.size 0 e)) e ((bytesRow s (grownCap w s.size 0 e)).size, (bytesRow s (grownCap w s.size 0 e)).size + 1) j
          refine this.trans ?_
          have hjs : j < s.data.size := by
            have := (List.getElem?_eq_some_iff.1 hj).1
            simpa [Arr.cells, bytesL] using this
          rw [bytesRow_at s _ j hjs, ← hj]
          simp [Arr.cells, bytesL]
          rw [Array.getElem?_eq_getElem hjs]; rfl, by simp⟩
        (.inr ⟨rfl, fun j q hq ho b off hf hf' => by
          obtain ⟨x, hx, rfl, _⟩ := hf'
          cases hx
          have hnd : g j ≠ .dead := by intro h0; rw [h0] at hf; exact hf
          obtain ⟨q', hq', hrq⟩ := S.inv.ok.rep j hnd
          rw [hq] at hq'; cases hq'
          have := hrq.lt' _ off hf
          simp at this⟩)
      obtain ⟨rfl, rfl⟩ := (hS _ _ I).ret
      refine Fin.new hn (Fin.here I ?_)
      simp only [RepV]
      exact ⟨_, updρ_same _ _ _, rfl⟩
    · exact S.fail
  · rename_i e id wn hs hd
    have hs := under_some hs (by simp)
    have hd := under_some hd (by simp)
    simp only [RepV] at hx
    obtain ⟨p, hp, hxs⟩ := hx
    split at S
    · rename_i he
      have he := under_some he (by simp)
      have S0 := S.rd; clear S; obtain ⟨l2, rfl, S⟩ := S0
      split at S
      · rename_i own nil a hg
        obtain ⟨q, hq, hr⟩ := S.inv.ok.rep id (by rw [hg]; simp)
        rw [hp] at hq; cases hq
        rw [hg] at hr
        obtain ⟨x, c, rfl, hlc, hoff, hbase⟩ := lenW_ok hr hxs
        obtain ⟨k1, k2, k3, k4, k5, k6⟩ := hr
        have main : ∀ (lz ns : List Int), a = .ints .u8 lz → lenW wn a = ns.length → (∀ j : Nat, ns[j]? = if j < ns.length then lz[offW wn + j]? else none) → Sit cal (.ret (.str (strL ns))) l2 v w0 M ρ g w →
            SemOk P (convert src dst (.slice x (lenW wn a) c)) (.rd id (g id) :: l2) v w0 M ρ g w := by
          intro lz ns ha hl hns S2
          subst ha
          refine ⟨.string (strL ns), w, ?_, (ret_ok S2 (by simp [RepV])).rd⟩
          rw [run_convert_bytes_string w src dst e x _ c hs he hd, hl]
          refine bytesToString_ok fun h0 => ?_
          obtain ⟨b, hb, rfl⟩ := hbase (by rw [hl]; exact h0)
          refine ⟨_, rfl, fun j u hj => ?_⟩
          rw [addr_add_add]
          have hjl : j < ns.length := by simpa using (List.getElem?_eq_some_iff.1 hj).1
          refine (k5 b hb).2 (offW wn * p.size + j) u ?_
          rw [← k2]
          simp only [Arr.size, Nat.mul_one, Arr.cells, List.getElem?_map]
          have := hns j
          rw [if_pos hjl] at this
          rw [← this, ← hj]
          simp
        split at S
        · split at S
          · rename_i lz
            exact main lz lz rfl rfl (fun j => by
              simp only [offW, Nat.zero_add]
              by_cases hj : j < lz.length
              · rw [if_pos hj]
              · rw [if_neg hj]; simp; omega) S
          · exact S.fail
        · rename_i o n
          split at S
          · rename_i lz
            simp only [lenW, offW] at hoff
            simp only [Arr.len] at k1
            exact main lz ((lz.drop o).take n) rfl (by simp [lenW]; omega) (fun j => by
              simp only [offW, List.length_take, List.length_drop, List.getElem?_take, List.getElem?_drop]
              by_cases hj : j < n
              · rw [if_pos hj, if_pos (by omega)]
              · rw [if_neg hj, if_neg (by omega)]) S
          · exact S.fail
      · exact S.fail
    · exact S.fail
  · exact S.fail
end
end Go.Ev
namespace Go.Ev
set_option linter.unusedSimpArgs false
set_option linter.unusedVariables false
open Go Go.RowKit
section
variable {cal : Nat → List D → Option (List D)} {l : List Ac} {v : AV} {w0 : World} {M : Nat → Nat → Prop} {ρ : Env} {g : Hp} {w w' : World} {P : Program}
/-- one operation, run to its end -/
def NextOk (P : Program) (s : Sem Next) (l : List Ac) (v : AV) (w0 : World) (M : Nat → Nat → Prop) (ρ : Env) (g : Hp) (w : World) : Prop :=
  ∃ n vv w', s.run P w = .ok n w' ∧ (n = .value vv ∨ (n = .skip ∧ vv = undef)) ∧ Fin w0 M l g ρ w' (fun ρ' => RepV ρ' v vv)
theorem NextOk.of {s : Sem Value} (h : SemOk P s l v w0 M ρ g w) : NextOk P (do pure (.value (← s))) l v w0 M ρ g w := by
  obtain ⟨vv, w', h1, h2⟩ := h
  exact ⟨.value vv, vv, w', by simp [h1], .inl rfl, h2⟩
theorem fixT_ret {t : TypeId} {x : AV} {xv : Value} (S : Sit cal (fixT P t x .ret) l v w0 M ρ g w) (hx : RepV ρ x xv) : Fin w0 M l g ρ w (fun ρ' => RepV ρ' v xv) := by
  obtain ⟨c, l1, g1, ρ1, S1, hc, hs, hF⟩ := fixT_ok S hx
  exact hF _ _ (ret_ok S1 hc)
theorem parts_rep {fr : List AV} {a : Act} (h : RepVs ρ fr a.tmps.toList) (ps : Array (Nat × Operand)) :
    RepP ρ (ps.toList.map fun (i, x) => (i, opd fr x)) (ps.map fun (i, x) => (i, a.eval x)).toList := by
  obtain ⟨ps⟩ := ps
  simp only [List.map_toArray]
  induction ps with
  | nil => simp [RepP]
  | cons x xs ih => simp only [List.map_cons, RepP]; exact ⟨_, _, rfl, rfl, opd_rep h _, ih⟩
theorem optRep {fr : List AV} {a : Act} (h : RepVs ρ fr a.tmps.toList) (x : Option Operand) : RepO ρ (x.map (opd fr)) (x.map a.eval) := by
  cases x with
  | none => trivial
  | some x => exact opd_rep h x
theorem key_of {k : AV} {x : Int × Int × Int} {v : Value} (h : k.key = some x) (r : RepV ρ k v) : v = key3 x := by
  unfold AV.key at h
  split at h
  · cases h
    simp only [RepV, RepVs] at r
    obtain ⟨vs, rfl, _, _, e1, rfl, _, _, rfl, rfl, _, _, rfl, rfl, rfl⟩ := r
    simp only [key3]
    congr 1
    exact Array.ext' (by simpa using e1)
  · cases h
theorem okF_some {f : Field} {i : Nat} (h : okF P f i = true) : f.name ≠ "_" ∧ P.underlying f.type = some (.int .i64) ∧ under P f.type = .int .i64 ∧ f.offset = i ∧ P.cellsOf f.type = 1 := by
  unfold okF at h
  split at h
  · cases h
  · rename_i hn
    split at h
    · rename_i hu
      rw [Bool.and_eq_true] at h
      exact ⟨hn, under_some hu (by simp), hu, Nat.eq_of_beq_eq_true h.1, Nat.eq_of_beq_eq_true h.2⟩
    · cases h
theorem keyOk_some {k : TypeId} (h : keyOk P k = true) : ∃ fs f1 f2 f3, under P k = .struct fs ∧ P.underlying k = some (.struct fs) ∧ fs = #[f1, f2, f3] ∧ P.stoodInHeld k = false ∧ okF P f1 0 = true ∧ okF P f2 1 = true ∧ okF P f3 2 = true := by
  unfold keyOk at h
  split at h
  · rename_i fs hu
    split at h
    · rename_i f1 f2 f3 hf
      simp only [Bool.and_eq_true, Bool.not_eq_true'] at h
      exact ⟨fs, f1, f2, f3, hu, under_some hu (by simp), Array.ext' (by simpa using hf), h.1, h.2.1, h.2.2.1, h.2.2.2⟩
    · cases h
  · cases h
theorem run_part3 {f : Field} {i : Nat} (h : okF P f i = true) (x : Int × Int × Int) (hi : i < 3) : (part f.type #[.int .i64 x.1, .int .i64 x.2.1, .int .i64 x.2.2] f.offset).run P w = .ok (.int .i64 (if i = 0 then x.1 else if i = 1 then x.2.1 else x.2.2)) w := by
  obtain ⟨h1, h2, h3, h4, h5⟩ := okF_some h
  have hk : known P f.type = true := by simp [known, h3]
  have ha : isAggT P f.type = false := by simp [isAggT, h3, isAggD]
  rw [run_part hk _ _ (fun _ => by rw [h4, h5]; simp; omega), ha, h4, h5]
  have : i = 0 ∨ i = 1 ∨ i = 2 := by omega
  rcases this with rfl | rfl | rfl <;> simp [ofCells]
theorem run_checkInt {t : TypeId} (h : P.underlying t = some (.int .i64)) (em : Bool) (n : Nat) (x : Int) : (Instr.checkKey em (n + 1) t (.int .i64 x)).run P w = .ok () w := by
  simp [Instr.checkKey, run_underlying h]
theorem run_checkKey3 {k : TypeId} (h : keyOk P k = true) (em : Bool) (x : Int × Int × Int) : (Instr.checkKey em 10000 k (key3 x)).run P w = .ok () w := by
  obtain ⟨fs, f1, f2, f3, hu, hk, rfl, hs, o1, o2, o3⟩ := keyOk_some h
  show (Instr.checkKey em (9999 + 1) k (key3 x)).run P w = .ok () w
  unfold Instr.checkKey
  have c1 := run_checkInt (w := w) (okF_some o1).2.1 em 9998
  have c2 := run_checkInt (w := w) (okF_some o2).2.1 em 9998
  have c3 := run_checkInt (w := w) (okF_some o3).2.1 em 9998
  simp [run_underlying hk, key3, (okF_some o1).1, (okF_some o2).1, (okF_some o3).1, run_part3 o1 x (by omega), run_part3 o2 x (by omega), run_part3 o3 x (by omega), c1, c2, c3]
theorem key3_inj {x y : Int × Int × Int} (h : key3 x = key3 y) : x = y := by
  simp [key3] at h
  obtain ⟨a, b, c⟩ := x
  obtain ⟨d, e, f⟩ := y
  simp at h
  simp [h]
theorem eqK_iff (x y : Int × Int × Int) : eqK x y = true ↔ key3 x = key3 y := by
  simp only [eqK, Bool.and_eq_true, decide_eq_true_eq]
  constructor
  · rintro ⟨h1, h2, h3⟩; simp [key3, h1, h2, h3]
  · intro h; have := key3_inj h; subst this; simp
theorem eqD_key {k : TypeId} (h : keyOk P k = true) (x y : Int × Int × Int) : eqD P 2 k [.int .i64 x.1, .int .i64 x.2.1, .int .i64 x.2.2] [.int .i64 y.1, .int .i64 y.2.1, .int .i64 y.2.2] = some (eqK x y) := by
  obtain ⟨fs, f1, f2, f3, hu, hk, rfl, hs, o1, o2, o3⟩ := keyOk_some h
  obtain ⟨a1, a2, a3, a4, a5⟩ := okF_some o1
  obtain ⟨b1, b2, b3, b4, b5⟩ := okF_some o2
  obtain ⟨c1, c2, c3, c4, c5⟩ := okF_some o3
  have e1 : ∀ (t : TypeId) (p q : Int), under P t = .int .i64 → eqD P 1 t [.int .i64 p] [.int .i64 q] = some (decide (p = q)) := fun t p q ht => by simp [eqD, ht]
  have e2 : ∀ (xs ys : List AV), eqD P (1 + 1) k xs ys = [f1, f2, f3].foldr (init := some true) fun f acc => if f.name = "_" then acc else
        match eqD P 1 f.type ((xs.drop f.offset).take (P.cellsOf f.type)) ((ys.drop f.offset).take (P.cellsOf f.type)), acc with
        | some b, some c => some (b && c)
        | _, _ => none := fun xs ys => by
    conv => lhs; unfold eqD
    simp only [hu, hs, Bool.false_eq_true, if_false]
    rfl
  rw [e2]
  simp only [List.foldr_cons, List.foldr_nil, a1, b1, c1, a4, b4, c4, a5, b5, c5, if_false]
  simp [e1 _ _ _ a3, e1 _ _ _ b3, e1 _ _ _ c3, eqK]
theorem run_equal3 {k : TypeId} (h : keyOk P k = true) (x y : Int × Int × Int) : (Op.equal k (key3 x) (key3 y)).run P w = .ok (eqK x y) w := by
  obtain ⟨fs, f1, f2, f3, hu, hk, rfl, hs, o1, o2, o3⟩ := keyOk_some h
  have ha : isAggT P k = true := by simp [isAggT, hu, isAggD]
  have := (eqD_ok (ρ := fun _ => none) (w := w) 2 k _ _ [.int .i64 x.1, .int .i64 x.2.1, .int .i64 x.2.2] [.int .i64 y.1, .int .i64 y.2.1, .int .i64 y.2.2] _ (Op.maxDepth - 2) (eqD_key h x y) (by simp [RepVs, RepV]) (by simp [RepVs, RepV])).1
  simp only [ha, ofCells, if_true] at this
  exact this
theorem run_findAsking3 {k : TypeId} (h : keyOk P k = true) (x : Int × Int × Int) : ∀ (es : List MapEntry) (i : Nat), (∀ e ∈ es, ∃ y, e.key = key3 y) →
    ((Instr.findAsking k (key3 x) es i).run P w = .ok none w ∧ ∀ e ∈ es, e.key ≠ key3 x) ∨ ∃ j e, (Instr.findAsking k (key3 x) es i).run P w = .ok (some (i + j, e.val)) w ∧ es[j]? = some e ∧ e.key = key3 x
  | [], i, _ => .inl ⟨by simp [Instr.findAsking], by simp⟩
  | e :: es, i, hk => by
    obtain ⟨y, hy⟩ := hk e (by simp)
    unfold Instr.findAsking
    simp only [Sem.run_bind, hy, run_equal3 h, Result.andThen_ok]
    by_cases hxy : eqK x y = true
    · right
      exact ⟨0, e, by simp [hxy], by simp, by rw [hy, (eqK_iff x y).1 hxy]⟩
    · have hne : key3 x ≠ key3 y := fun e => hxy ((eqK_iff x y).2 e)
      rw [Bool.not_eq_true] at hxy
      simp only [hxy, Bool.false_eq_true, if_false]
      rcases run_findAsking3 h x es (i + 1) (fun e he => hk e (by simp [he])) with ⟨h1, h2⟩ | ⟨j, e', h1, h2, h3⟩
      · left
        refine ⟨h1, fun e' he' => ?_⟩
        rcases List.mem_cons.1 he' with rfl | he'
        · rw [hy]; exact fun e => hne e.symm
        · exact h2 e' he'
      · right
        exact ⟨j + 1, e', by rw [h1]; congr 3; omega, by simpa using h2, h3⟩
theorem run_findKey3 {k : TypeId} (h : keyOk P k = true) (x : Int × Int × Int) (es : List MapEntry) (hk : ∀ e ∈ es, ∃ y, e.key = key3 y) :
    ((Instr.findKey k (key3 x) es).run P w = .ok none w ∧ ∀ e ∈ es, e.key ≠ key3 x) ∨ ∃ j e, (Instr.findKey k (key3 x) es).run P w = .ok (some (j, e.val)) w ∧ es[j]? = some e ∧ e.key = key3 x := by
  obtain ⟨fs, f1, f2, f3, hu, hkk, rfl, hs, o1, o2, o3⟩ := keyOk_some h
  cases es with
  | nil => exact .inl ⟨by simp [Instr.findKey, run_underlying hkk, Instr.findNow], by simp⟩
  | cons e es =>
    have hfn : Instr.findNow (.struct #[f1, f2, f3]) (key3 x) (e :: es) 0 = none := by
      obtain ⟨y, hy⟩ := hk e (by simp)
      simp [Instr.findNow, hy, key3, Instr.sameNow]
    have := run_findAsking3 (w := w) h x (e :: es) 0 hk
    simp only [Nat.zero_add] at this
    simp only [Instr.findKey, Sem.run_bind, run_underlying hkk, Result.andThen_ok, hfn]
    exact this
theorem run_stays3 (x : Int × Int × Int) : (Instr.keyThatStays (key3 x) (key3 x)).run P w = .ok (key3 x) w := by
  have : Instr.sameBits 10000 (key3 x) (key3 x) = true := by
    show Instr.sameBits (9999 + 1) (key3 x) (key3 x) = true
    simp [key3, Instr.sameBits]
  simp [Instr.keyThatStays, this]
theorem MapRep.keys {es : Array MapEntry} {l : List (Int × Int × Int)} (h : MapRep es l) : ∀ e ∈ es.toList, ∃ y, e.key = key3 y := fun e he => let ⟨_, k, _, hk⟩ := h.1 e he; ⟨k, hk⟩
theorem mapNew_ok {t : TypeId} (S : Sit cal (mapNewP P t) l v w0 M ρ g w) : SemOk P (Instr.makeMap t none) l v w0 M ρ g w := by
  unfold mapNewP at S
  split at S
  · rename_i k e hu
    have S1 := S.chk; clear S; obtain ⟨hc, S⟩ := S1
    refine ⟨_, _, rfl, ?_⟩
    obtain ⟨id, l', rfl, hn, hdd, hS⟩ := S.new
    have I := S.inv.new (id := id) (p := ⟨some ⟨w.heap.size, 0, none⟩, 0, 0, 0, []⟩) (e := .mp []) hn (fr_alloc w (.map #[] 0))
      ⟨_, #[], 0, rfl, (MapKept.heap_alloc w _).1, by simp [MapRep]⟩ (.inl ⟨rfl, fun b off hf => by obtain ⟨x, hx, rfl⟩ := hf; cases hx; exact Nat.le_refl _⟩)
    obtain ⟨rfl, rfl⟩ := (hS _ _ I).ret
    refine Fin.new hn (Fin.here I ?_)
    simp only [RepV]
    exact ⟨_, _, updρ_same _ _ _, rfl, rfl⟩
  · exact S.fail
theorem fr_map {b : Nat} {es es' : Array MapEntry} {c c' : Nat} (h : w.heap[b]? = some (.map es c)) : Fr (fun b' _ => b' = b) w { w with heap := w.heap.setIfInBounds b (.map es' c') } := by
  refine ⟨rfl, rfl, rfl, by simp, fun i hi => ?_⟩
  by_cases hib : i = b
  · subst hib
    exact .inr (.inr ⟨es, c, es', c', h, by simp [hi], rfl⟩)
  · exact .inr (.inl (by simp [Array.getElem?_setIfInBounds, Ne.symm hib]))
theorem mapPut_ok {t : TypeId} {m k x : AV} {mv kv xv : Value} (S : Sit cal (mapPutP P t m k x) l v w0 M ρ g w) (hm : RepV ρ m mv) (hk : RepV ρ k kv) (hx : RepV ρ x xv) :
    v = .un ∧ ∃ w', (Instr.mapUpdate t mv kv xv).run P w = .ok () w' ∧ Fin w0 M l g ρ w' (fun _ => True) := by
  unfold mapPutP at S
  split at S
  · rename_i kt et id y hu hkey
    have hun := under_some hu (by simp)
    have S1 := S.chk; clear S; obtain ⟨hc, S⟩ := S1
    have S0 := S.rd; clear S; obtain ⟨l2, rfl, S⟩ := S0
    simp only [RepV] at hx
    subst hx
    have := key_of hkey hk
    subst this
    simp only [RepV] at hm
    obtain ⟨p, a, hp, hb, rfl⟩ := hm
    split at S
    · rename_i ls hg
      obtain ⟨q, hq, hr⟩ := S.inv.ok.rep id (by rw [hg]; simp)
      rw [hp] at hq; cases hq
      rw [hg] at hr
      obtain ⟨a', es, ck, hb', hes, hmr⟩ := hr
      rw [hb] at hb'; cases hb'
      obtain ⟨l3, rfl, _, hS⟩ := S.wr
      have main : ∀ es' ck', MapRep es' (ls ++ [y]) → (Instr.mapUpdate t (.map (some a.block)) (key3 y) (.bool true)).run P w = .ok () { w with heap := w.heap.setIfInBounds a.block (.map es' ck') } →
          v = .un ∧ ∃ w', (Instr.mapUpdate t (.map (some a.block)) (key3 y) (.bool true)).run P w = .ok () w' ∧ Fin w0 M (.rd id (g id) :: .wr id (.mp (ls ++ [y])) :: l3) g ρ w' (fun _ => True) := by
        intro es' ck' hmr' hrun
        have hlt := (Array.getElem?_eq_some_iff.1 hes).1
        have I := S.inv.turn (id := id) (p := p) (e := .mp (ls ++ [y])) hp (by rw [hg]; rfl) (fr_map (es' := es') (c' := ck') hes) (fun b off h => by rw [hg]; exact ⟨a, hb, h.symm⟩)
          ⟨a, es', ck', hb, by simp [hlt], hmr'⟩ (fun b off h => by rw [hg]; exact h)
        obtain ⟨rfl, rfl⟩ := (hS _ I).ret
        exact ⟨rfl, _, hrun, ((Fin.here I trivial).wr).rd⟩
      have hget : (getObj a.block).run P w = .ok (.map es ck) w := by simp [getObj, Sem.run, hes]
      have hset : ∀ o : Obj, (setObj a.block o).run P w = .ok () { w with heap := w.heap.setIfInBounds a.block o } := fun o => by simp [setObj, Sem.run, hes]
      rcases run_findKey3 (w := w) hc y es.toList hmr.keys with ⟨h1, h2⟩ | ⟨j, e, h1, h2, h3⟩
      · refine main (es.push { key := key3 y, val := .bool true, born := ck }) (ck + 1) ⟨fun e he => ?_, fun k hk => ?_⟩ ?_
        · simp only [Array.toList_push, List.mem_append, List.mem_singleton] at he
          rcases he with he | rfl
          · obtain ⟨e1, k, hk, e2⟩ := hmr.1 e he
            exact ⟨e1, k, by simp [hk], e2⟩
          · exact ⟨rfl, y, by simp, rfl⟩
        · rcases List.mem_append.1 hk with hk | hk
          · obtain ⟨e, he, e2⟩ := hmr.2 k hk
            exact ⟨e, by simp [he], e2⟩
          · rw [List.mem_singleton.1 hk]
            exact ⟨_, by simp; exact .inr rfl, rfl⟩
        · simp only [Instr.mapUpdate, Sem.run_bind, run_underlying hun, Result.andThen_ok, hget, run_checkKey3 hc, h1, hset]
      · have hj : es[j]? = some e := by simpa using h2
        refine main (es.modify j fun e => { e with key := key3 y, val := .bool true }) ck ⟨fun e' he' => ?_, fun k hk => ?_⟩ ?_
        · rw [Array.mem_toList_iff] at he'
          obtain ⟨i, hi, rfl⟩ := Array.getElem_of_mem he'
          simp only [Array.size_modify] at hi
          rw [Array.getElem_modify]
          by_cases hij : j = i
          · rw [if_pos hij]; exact ⟨rfl, y, by simp, rfl⟩
          · rw [if_neg hij]
            obtain ⟨e1, k, hk, e2⟩ := hmr.1 es[i] (by simp)
            exact ⟨e1, k, by simp [hk], e2⟩
        · have : ∃ e ∈ es.toList, e.key = key3 k := by
            rcases List.mem_append.1 hk with hk | hk
            · exact hmr.2 k hk
            · rw [List.mem_singleton.1 hk]
              exact ⟨e, by simpa using Array.mem_of_getElem? hj, h3⟩
          obtain ⟨e', he', e2⟩ := this
          rw [Array.mem_toList_iff] at he'
          obtain ⟨i, hi, rfl⟩ := Array.getElem_of_mem he'
          refine ⟨(es.modify j fun e => { e with key := key3 y, val := .bool true })[i]'(by simpa using hi), Array.mem_toList_iff.2 (Array.getElem_mem _), ?_⟩
          rw [Array.getElem_modify]
          by_cases hij : j = i
          · rw [if_pos hij]
            subst hij
            rw [Array.getElem?_eq_getElem hi] at hj
            cases hj
            rw [← e2, h3]
          · rw [if_neg hij]; exact e2
        · simp only [Instr.mapUpdate, Sem.run_bind, run_underlying hun, Result.andThen_ok, hget, run_checkKey3 hc, h1, hj, Option.map_some, Option.getD_some, h3, run_stays3, hset]
    · exact S.fail
  · exact S.fail
theorem hasK_iff {es : Array MapEntry} {ls : List (Int × Int × Int)} (h : MapRep es ls) (y : Int × Int × Int) : hasK ls y = true ↔ ∃ e ∈ es.toList, e.key = key3 y := by
  simp only [hasK, List.any_eq_true, eqK_iff]
  constructor
  · rintro ⟨k, hk, e⟩
    rw [e]; exact h.2 k hk
  · rintro ⟨e, he, hk⟩
    obtain ⟨_, k, hk', e2⟩ := h.1 e he
    exact ⟨k, hk', by rw [← hk, e2]⟩
theorem mapGet_ok {t : TypeId} {m k : AV} {mv kv : Value} (S : Sit cal (mapGetP P t m k) l v w0 M ρ g w) (hm : RepV ρ m mv) (hk : RepV ρ k kv) : SemOk P (Instr.lookup t mv kv false) l v w0 M ρ g w := by
  unfold mapGetP at S
  split at S
  · rename_i kt et id y hu hkey
    have hun := under_some hu (by simp)
    split at S
    · rename_i hz
      have S1 := S.chk; clear S; obtain ⟨hc, S⟩ := S1
      have S0 := S.rd; clear S; obtain ⟨l2, rfl, S⟩ := S0
      have := key_of hkey hk
      subst this
      simp only [RepV] at hm
      obtain ⟨p, a, hp, hb, rfl⟩ := hm
      split at S
      · rename_i ls hg
        obtain ⟨q, hq, hr⟩ := S.inv.ok.rep id (by rw [hg]; simp)
        rw [hp] at hq; cases hq
        rw [hg] at hr
        obtain ⟨a', es, ck, hb', hes, hmr⟩ := hr
        rw [hb] at hb'; cases hb'
        have hzero : (zeroValue et).run P w = .ok (.bool false) w := by
          cases hi : P.info? et with
          | none => rw [hi] at hz; cases hz
          | some i =>
            rw [hi] at hz
            simp only [Option.bind_some] at hz
            simp [zeroValue, typeInfo, hi, hz]
        have hget : (getObj a.block).run P w = .ok (.map es ck) w := by simp [getObj, Sem.run, hes]
        have hres : (Instr.lookup t (.map (some a.block)) (key3 y) false).run P w = .ok (.bool (hasK ls y)) w := by
          rcases run_findKey3 (w := w) hc y es.toList hmr.keys with ⟨h1, h2⟩ | ⟨j, e, h1, h2, h3⟩
          · have hno : hasK ls y = false := by
              rw [← Bool.not_eq_true, hasK_iff hmr]
              rintro ⟨e, he, hk⟩
              exact h2 e he hk
            rw [hno]
            simp only [Instr.lookup, Sem.run_bind, run_underlying hun, Result.andThen_ok, hget, Sem.run_pure, run_checkKey3 hc, h1, hzero]
            rfl
          · have hyes : hasK ls y = true := (hasK_iff hmr y).2 ⟨e, List.mem_of_getElem? h2, h3⟩
            rw [hyes]
            have hv := (hmr.1 e (List.mem_of_getElem? h2)).1
            simp only [Instr.lookup, Sem.run_bind, run_underlying hun, Result.andThen_ok, hget, Sem.run_pure, run_checkKey3 hc, h1, hv]
            rfl
        exact ⟨_, w, hres, (ret_ok S (by simp [RepV])).rd⟩
      · exact S.fail
    · exact S.fail
  · exact S.fail
theorem step_ok {A : Ann} {o : Oper} {fr : List AV} {a : Act} (hc : ∀ c f, o.op = .call c → c.callee ≠ .value f) (h : RepVs ρ fr a.tmps.toList) (S : Sit cal (stepP P A o fr) l v w0 M ρ g w) :
    NextOk P (execOp a.eval o) l v w0 M ρ g w := by
  obtain ⟨dst, op, type, pos, after, guard⟩ := o
  unfold stepP at S
  cases op <;> simp only at S <;> simp only [execOp]
  case move x => exact ⟨_, _, w, rfl, .inl rfl, fixT_ret S (opd_rep h x)⟩
  case assign x => exact ⟨_, _, w, rfl, .inl rfl, fixT_ret S (opd_rep h x)⟩
  case pick c x y =>
    have hcr := opd_rep h c
    split at S
    · rename_i b hb
      rw [hb] at hcr
      simp only [RepV] at hcr
      have S0 := S.br
      clear S
      rcases S0 with ⟨rfl, S⟩ | ⟨rfl, S⟩
      · exact ⟨.value (a.eval x), _, w, by simp [hcr, asBool], .inl rfl, fixT_ret S (opd_rep h x)⟩
      · exact ⟨.value (a.eval y), _, w, by simp [hcr, asBool], .inl rfl, fixT_ret S (opd_rep h y)⟩
    · exact S.fail
  case alloc t => exact NextOk.of (alloc_ok S)
  case box t x => exact NextOk.of (box_ok S (opd_rep h x))
  case build t ps => exact NextOk.of (buildP_ok S (parts_rep h ps))
  case buildSlice t n ps => exact NextOk.of (buildSliceP_ok S (parts_rep h ps))
  case load t x => exact NextOk.of (loadP_ok S (opd_rep h x))
  case store t x y =>
    obtain ⟨rfl, w', h1, h2⟩ := storeP_ok S (opd_rep h x) (opd_rep h y)
    refine ⟨.skip, undef, w', by simp [h1], .inr ⟨rfl, rfl⟩, ?_⟩
    obtain ⟨ρ', k1, k2, k3, _⟩ := h2
    exact ⟨ρ', k1, k2, k3, by simp [RepV]⟩
  case nilCheck x =>
    have hx := opd_rep h x
    split at S
    · rename_i id i o e
      rw [e] at hx
      have hx' := hx
      simp only [RepV] at hx
      obtain ⟨p, y, hp, hb, hi, hv⟩ := hx
      exact ⟨_, _, w, by rw [hv]; rfl, .inl rfl, ret_ok S (by rw [← hv]; exact hx')⟩
    · rename_i f cs e
      rw [e] at hx
      have hx' := hx
      simp only [RepV] at hx
      obtain ⟨vs, hv, hr⟩ := hx
      exact ⟨_, _, w, by rw [hv]; rfl, .inl rfl, ret_ok S (by rw [← hv]; exact hx')⟩
    · exact S.fail
  case binOp op t x y b => exact NextOk.of (binP_ok S (opd_rep h x) (opd_rep h y))
  case unOp op t x => exact NextOk.of (unP_ok S (opd_rep h x))
  case convert s d x => exact NextOk.of (convP_ok S (opd_rep h x))
  case makeFunc fn first caps =>
    split at S <;> try exact S.fail
    all_goals (rename_i he; try cases he)
    rename_i f
    split at S
    · rename_i hf
      have hf' : first.map a.eval = #[] := by simp at hf; simp [hf]
      refine ⟨.value (.func (.func f) #[] (caps.map a.eval)), _, w, ?_, .inl rfl, ret_ok S ?_⟩
      · rw [hf']; rfl
      · simp only [RepV]; exact ⟨_, rfl, operands_rep h caps⟩
    · exact S.fail
  case makeSlice t x y => exact NextOk.of (makeSliceP_ok S (opd_rep h x) (opd_rep h y))
  case slice t x lo hi mx => exact NextOk.of (sliceP_ok S (opd_rep h x) (optRep h lo) (optRep h hi) (optRep h mx))
  case fieldAddr s x f => exact NextOk.of (fieldAddr_ok S (opd_rep h x))
  case field t x f => exact NextOk.of (fieldP_ok S (opd_rep h x))
  case indexAddr t x ix => exact NextOk.of (indexAddrP_ok S (opd_rep h x) (opd_rep h ix))
  case index t x ix => exact NextOk.of (indexP_ok S (opd_rep h x) (opd_rep h ix))
  case extract x i =>
    have hx := opd_rep h x
    split at S
    · rename_i vs e
      rw [e] at hx
      simp only [RepV] at hx
      obtain ⟨us, hv, hr⟩ := hx
      split at S
      · rename_i c hci
        obtain ⟨u, hu, hcu⟩ := hr.get? hci
        refine ⟨.value u, u, w, ?_, .inl rfl, ret_ok S hcu⟩
        rw [hv]
        simp only [Array.getElem?_toList] at hu
        simp [Instr.extract, hu]
      · exact S.fail
    · exact S.fail
  case call c =>
    split at S
    · rename_i b hb
      have hr := operands_rep h c.args
      unfold builtinP at S
      simp only [resolve, hb, Sem.run_bind, Sem.run_pure]
      split at S
      · rename_i t x ht hx
        rw [hx] at hr
        have hts : c.argTypes = #[t] := by cases e : c.argTypes; rw [e] at ht; simp at ht; rw [ht]
        simp only [RepVs] at hr
        obtain ⟨u, us, e1, h1, h2⟩ := hr
        exact NextOk.of (lenP_ok (P := P) (ts := c.argTypes) (ty := type) (vs := c.args.map a.eval) (by rw [hts]; rfl) (by rw [← Array.getElem?_toList, e1]; rfl) S h1)
      · rename_i t t2 s x ht hx
        rw [hx] at hr
        have hts : c.argTypes = #[t, t2] := by cases e : c.argTypes; rw [e] at ht; simp at ht; rw [ht]
        simp only [RepVs] at hr
        obtain ⟨u, us, e1, h1, u2, us2, rfl, h2, rfl⟩ := hr
        have hvs : c.args.map a.eval = #[u, u2] := by cases e : c.args.map a.eval; rw [e] at e1; simp at e1; rw [e1]
        simp only [invoke, builtin]
        rw [hvs, hts]
        exact NextOk.of (appendP_ok S h1 h2)
      · exact NextOk.of (maxP_ok S hr)
      · exact NextOk.of (minP_ok S hr)
      · exact S.fail
    · rename_i f hf
      exact absurd hf (hc c f rfl)
    · exact S.fail
  case makeMap t r =>
    cases r with
    | none => exact NextOk.of (mapNew_ok S)
    | some r => exact S.fail
  case mapUpdate t m k x =>
    obtain ⟨rfl, w', h1, h2⟩ := mapPut_ok S (opd_rep h m) (opd_rep h k) (opd_rep h x)
    refine ⟨.skip, undef, w', by simp [h1], .inr ⟨rfl, rfl⟩, ?_⟩
    obtain ⟨ρ', k1, k2, k3, _⟩ := h2
    exact ⟨ρ', k1, k2, k3, by simp [RepV]⟩
  case lookup t m k ok =>
    cases ok with
    | false => exact NextOk.of (mapGet_ok S (opd_rep h m) (opd_rep h k))
    | true => exact S.fail
  all_goals (first | exact S.fail | (cases S.run))
end
end Go.Ev
namespace Go.Ev
set_option linter.unusedSimpArgs false
set_option linter.unusedVariables false
open Go Go.RowKit
abbrev Feet := List (Bool × (Nat → Nat → Prop))
def boxFoot (x : Addr) (n : Nat) : Nat → Nat → Prop := fun b off => x.block = b ∧ x.off ≤ off ∧ off < x.off + n
theorem foot_box {x : Addr} {p : Plc} {own : Bool} {cs : List AV} (h : p.base = some x) {b off : Nat} : foot p (.box own cs) b off ↔ boxFoot x cs.length b off := by
  simp only [foot, boxFoot, h, Option.some.injEq, exists_eq_left']
mutual
def RepD (w : World) : D → Value → Feet → Prop
  | .int k n, v, F => v = .int k n ∧ F = []
  | .bool b, v, F => v = .bool b ∧ F = []
  | .str s, v, F => v = .string s ∧ F = []
  | .arr own nil a, v, F => ∃ p : Plc, v = .slice p.base p.len p.cap ∧ RepE (fun _ => none) w p (.arr own nil a) ∧ F = [(own, foot p (.arr own nil a))]
  | .agg l, v, F => ∃ vs, v = .agg vs ∧ RepDs w l vs.toList F
  | .ptr own l, v, F => ∃ x vs F', v = .pointer (some x) ∧ x.spot = none ∧ RepDs w l vs F' ∧ CellsL w x vs ∧ (own = true → Thawed w x vs.length) ∧ F = F' ++ [(own, boxFoot x l.length)]
  | .fn f l, v, F => ∃ vs, v = .func (.func f) #[] vs ∧ RepDs w l vs.toList F
  | .rows nil z l, v, F => ∃ p : Plc, v = .slice p.base p.len p.cap ∧ RepE (fun _ => none) w p (.rows false nil z l) ∧ F = [(false, foot p (.rows false nil z l)), (false, inn p (.rows false nil z l))]
def RepDs (w : World) : List D → List Value → Feet → Prop
  | [], vs, F => vs = [] ∧ F = []
  | d :: ds, vs, F => ∃ u us F1 F2, vs = u :: us ∧ F = F1 ++ F2 ∧ RepD w d u F1 ∧ RepDs w ds us F2
end
theorem RepDs.length {w : World} : ∀ {ds : List D} {vs : List Value} {F : Feet}, RepDs w ds vs F → vs.length = ds.length
  | [], vs, F, h => by simp only [RepDs] at h; simp [h.1]
  | d :: ds, vs, F, h => by
    simp only [RepDs] at h
    obtain ⟨u, us, F1, F2, rfl, rfl, h1, h2⟩ := h
    simp [h2.length]
def Apart (A B : Nat → Nat → Prop) : Prop := ∀ b off, A b off → ¬ B b off
def Sep (F : Feet) : Prop := F.Pairwise fun A B => A.1 = true ∨ B.1 = true → Apart A.2 B.2
def ownOf (F : Feet) : Nat → Nat → Prop := fun b off => ∃ A ∈ F, A.1 = true ∧ A.2 b off

/-- an entry is laid where none was -/
theorem Inv.put {w0 : World} {M : Nat → Nat → Prop} {ρ ρ' : Env} {g : Hp} {w : World} (I : Inv w0 M ρ g w) {id : Nat} {p : Plc} {e : Ent} (hs : Sub ρ ρ') (ho : ∀ i, i ≠ id → ρ' i = ρ i) (hp : ρ' id = some p)
    (hd : g id = .dead) (hr : RepE ρ' w p e) (hdis : ∀ j q, j ≠ id → ρ j = some q → (e.own = true ∨ (g j).own = true) → Apart (foot p e) (foot q (g j)))
    (hown : e.own = true → ∀ b off, foot p e b off → M b off ∨ w0.heap.size ≤ b)
    (hi1 : e.own = true → ∀ j q, j ≠ id → ρ j = some q → ∀ b off, foot p e b off → ¬ inn q (g j) b off) (hi2 : ∀ j q, j ≠ id → ρ j = some q → (g j).own = true → ∀ b off, foot q (g j) b off → ¬ inn p e b off := by intro _ _ _ _ _ _ _ _ h; exact h)
    (hi3 : e.own = true → ∀ b off, foot p e b off → ¬ inn p e b off := by intro _ _ _ _ h; exact h) : Inv w0 M ρ' (upd g id e) w := by
  refine ⟨⟨?_, ?_, ?_⟩, I.fr, ?_⟩
  · intro i hi
    by_cases hii : i = id
    · subst hii; rw [upd_same] at hi ⊢; exact ⟨p, hp, hr⟩
    · rw [upd_other _ _ hii] at hi ⊢
      obtain ⟨q, hq, hrq⟩ := I.ok.rep i hi
      exact ⟨q, hs _ _ hq, hrq.mono hs⟩
  · intro i j q r hij hq hrr ho' b off hf hf'
    by_cases hii : i = id
    · subst hii
      rw [hp] at hq; cases hq
      rw [upd_same] at ho' hf
      have hji : j ≠ i := Ne.symm hij
      rw [ho _ hji] at hrr
      rw [upd_other _ _ hji] at hf'
      exact hdis j r hji hrr (.inl ho') b off hf hf'
    · rw [ho _ hii] at hq
      rw [upd_other _ _ hii] at ho' hf
      by_cases hjj : j = id
      · subst hjj
        rw [hp] at hrr; cases hrr
        rw [upd_same] at hf'
        exact hdis i q hii hq (.inr ho') b off hf' hf
      · rw [ho _ hjj] at hrr
        rw [upd_other _ _ hjj] at hf'
        exact I.ok.sep i j q r hij hq hrr ho' b off hf hf'
  · intro i j q r hq hrr ho' b off hf hf'
    by_cases hii : i = id
    · subst hii
      rw [hp] at hq; cases hq
      rw [upd_same] at ho' hf
      by_cases hji : j = i
      · subst hji
        rw [hp] at hrr; cases hrr
        rw [upd_same] at hf'
        exact hi3 ho' b off hf hf'
      · rw [ho _ hji] at hrr
        rw [upd_other _ _ hji] at hf'
        exact hi1 ho' j r hji hrr b off hf hf'
    · rw [ho _ hii] at hq
      rw [upd_other _ _ hii] at ho' hf
      by_cases hjj : j = id
      · subst hjj
        rw [hp] at hrr; cases hrr
        rw [upd_same] at hf'
        exact hi2 i q hii hq ho' b off hf hf'
      · rw [ho _ hjj] at hrr
        rw [upd_other _ _ hjj] at hf'
        exact I.ok.inn i j q r hq hrr ho' b off hf hf'
  · intro i q hq ho' b off hf
    by_cases hii : i = id
    · subst hii
      rw [hp] at hq; cases hq
      rw [upd_same] at ho' hf
      exact hown ho' b off hf
    · rw [ho _ hii] at hq
      rw [upd_other _ _ hii] at ho' hf
      exact I.own i q hq ho' b off hf

/-- some entries are out (S); the memory F waits to be taken in -/
def kills (S : List Nat) (g : Hp) : Hp := fun id => if id ∈ S then .dead else g id
theorem kills_nil (g : Hp) : kills [] g = g := by funext id; simp [kills]
structure Pend (st : Bool) (w0 : World) (M : Nat → Nat → Prop) (ρ : Env) (g : Hp) (S : List Nat) (F : Feet) (w : World) : Prop where
  inv : Inv w0 M ρ (kills S g) w
  known : ∀ id ∈ S, ρ id ≠ none
  nodup : S.Nodup
  sep : Sep F
  dis : ∀ A ∈ F, ∀ id p, ρ id = some p → (A.1 = true ∨ (st = true ∧ (kills S g id).own = true)) → Apart A.2 (foot p (kills S g id))
  own : ∀ A ∈ F, A.1 = true → ∀ b off, A.2 b off → M b off ∨ w0.heap.size ≤ b
  din : ∀ A ∈ F, A.1 = true → ∀ id p, ρ id = some p → ∀ b off, A.2 b off → ¬ inn p (kills S g id) b off
section
variable {st : Bool} {w0 : World} {M : Nat → Nat → Prop} {ρ : Env} {g : Hp} {S : List Nat} {F : Feet} {w : World}
theorem Pend.skip {F1 : Feet} (h : Pend st w0 M ρ g S (F1 ++ F) w) : Pend st w0 M ρ g S F w :=
  ⟨h.inv, h.known, h.nodup, (List.pairwise_append.1 h.sep).2.1, fun A hA => h.dis A (List.mem_append_right _ hA), fun A hA => h.own A (List.mem_append_right _ hA), fun A hA => h.din A (List.mem_append_right _ hA)⟩
theorem Pend.new {A : Bool × (Nat → Nat → Prop)} (h : Pend st w0 M ρ g S (A :: F) w) {id : Nat} {p : Plc} {e : Ent} (hid : ρ id = none) (hr : RepE (updρ ρ id p) w p e) (he : e.own = A.1) (hst : st = true ∨ A.1 = true)
    (hf : ∀ b off, foot p e b off → A.2 b off) (hin : ∀ b off, inn p e b off → False := by intro _ _ h; exact h) : Pend st w0 M (updρ ρ id p) (upd g id e) S F w := by
  have hS : id ∉ S := fun hi => h.known id hi hid
  have hk : kills S (upd g id e) = upd (kills S g) id e := by
    funext i
    by_cases hii : i = id
    · subst hii; simp [kills, hS]
    · simp only [kills, upd_other _ _ hii]
  have hdead : kills S g id = .dead := by
    by_cases hd : kills S g id = .dead
    · exact hd
    · obtain ⟨q, hq, _⟩ := h.inv.ok.rep id hd
      rw [hid] at hq; cases hq
  have hsep := List.pairwise_cons.1 h.sep
  refine ⟨?_, ?_, h.nodup, hsep.2, ?_, fun B hB => h.own B (by simp [hB]), fun B hB hB1 i q hq b off h1 h2 => ?_⟩
  · rw [hk]
    refine h.inv.put (sub_updρ hid) (fun i hi => updρ_other _ _ hi) (updρ_same _ _ _) hdead hr (fun j q hj hq ho b off h1 h2 => ?_) (fun ho b off h1 => h.own A (by simp) (he ▸ ho) b off (hf _ _ h1))
      (fun ho j q hj hq b off h1 h2 => h.din A (by simp) (he ▸ ho) j q hq b off (hf _ _ h1) h2) (fun j q hj hq ho b off h1 h2 => hin b off h2) (fun ho b off h1 h2 => hin b off h2)
    refine h.dis A (by simp) j q hq ?_ b off (hf _ _ h1) h2
    rcases ho with ho | ho
    · exact .inl (he ▸ ho)
    · rcases hst with hst | hst
      · exact .inr ⟨hst, ho⟩
      · exact .inl hst
  · intro i hi hn
    by_cases hii : i = id
    · exact hS (hii ▸ hi)
    · rw [updρ_other _ _ hii] at hn; exact h.known i hi hn
  · intro B hB i q hq hBo b off h1 h2
    rw [hk] at h2 hBo
    by_cases hii : i = id
    · subst hii
      rw [updρ_same] at hq; cases hq
      rw [upd_same] at h2 hBo
      refine hsep.1 B hB ?_ b off (hf _ _ h2) h1
      rcases hBo with hBo | ⟨_, hBo⟩
      · exact .inr hBo
      · exact .inl (he ▸ hBo)
    · rw [updρ_other _ _ hii] at hq
      rw [upd_other _ _ hii] at h2 hBo
      exact h.dis B (by simp [hB]) i q hq hBo b off h1 h2
  · rw [hk] at h2
    by_cases hii : i = id
    · subst hii
      rw [updρ_same] at hq; cases hq
      rw [upd_same] at h2
      exact hin b off h2
    · rw [updρ_other _ _ hii] at hq
      rw [upd_other _ _ hii] at h2
      exact h.din B (by simp [hB]) hB1 i q hq b off h1 h2
/-- records that may be read -/
theorem Pend.newR {A B : Bool × (Nat → Nat → Prop)} (h : Pend true w0 M ρ g S (A :: B :: F) w) {id : Nat} {p : Plc} {e : Ent} (hid : ρ id = none) (hr : RepE (updρ ρ id p) w p e) (he : e.own = false)
    (hf : ∀ b off, foot p e b off → A.2 b off) (hin : ∀ b off, inn p e b off → B.2 b off) : Pend true w0 M (updρ ρ id p) (upd g id e) S F w := by
  have hS : id ∉ S := fun hi => h.known id hi hid
  have hk : kills S (upd g id e) = upd (kills S g) id e := by
    funext i
    by_cases hii : i = id
    · subst hii; simp [kills, hS]
    · simp only [kills, upd_other _ _ hii]
  have hdead : kills S g id = .dead := by
    by_cases hd : kills S g id = .dead
    · exact hd
    · obtain ⟨q, hq, _⟩ := h.inv.ok.rep id hd
      rw [hid] at hq; cases hq
  have hsep := List.pairwise_cons.1 h.sep
  have hsep2 := List.pairwise_cons.1 hsep.2
  refine ⟨?_, ?_, h.nodup, hsep2.2, ?_, fun B hB => h.own B (by simp [hB]), fun C hC hC1 i q hq b off h1 h2 => ?_⟩
  · rw [hk]
    refine h.inv.put (sub_updρ hid) (fun i hi => updρ_other _ _ hi) (updρ_same _ _ _) hdead hr (fun j q hj hq ho b off h1 h2 => ?_) (fun ho => by rw [he] at ho; cases ho) (fun ho => by rw [he] at ho; cases ho)
      (fun j q hj hq ho b off h1 h2 => h.dis B (by simp) j q hq (.inr ⟨rfl, ho⟩) b off (hin _ _ h2) h1) (fun ho => by rw [he] at ho; cases ho)
    rcases ho with ho | ho
    · rw [he] at ho; cases ho
    · exact h.dis A (by simp) j q hq (.inr ⟨rfl, ho⟩) b off (hf _ _ h1) h2
  · intro i hi hn
    by_cases hii : i = id
    · exact hS (hii ▸ hi)
    · rw [updρ_other _ _ hii] at hn; exact h.known i hi hn
  · intro C hC i q hq hCo b off h1 h2
    rw [hk] at h2 hCo
    by_cases hii : i = id
    · subst hii
      rw [updρ_same] at hq; cases hq
      rw [upd_same] at h2 hCo
      rcases hCo with hCo | ⟨_, hCo⟩
      · exact hsep.1 C (by simp [hC]) (.inr hCo) b off (hf _ _ h2) h1
      · rw [he] at hCo; cases hCo
    · rw [updρ_other _ _ hii] at hq
      rw [upd_other _ _ hii] at h2 hCo
      exact h.dis C (by simp [hC]) i q hq hCo b off h1 h2
  · rw [hk] at h2
    by_cases hii : i = id
    · subst hii
      rw [updρ_same] at hq; cases hq
      rw [upd_same] at h2
      exact hsep2.1 C hC (.inr hC1) b off (hin _ _ h2) h1
    · rw [updρ_other _ _ hii] at hq
      rw [upd_other _ _ hii] at h2
      exact h.din C (by simp [hC]) hC1 i q hq b off h1 h2
theorem Pend.back {A : Bool × (Nat → Nat → Prop)} {id : Nat} (h : Pend st w0 M ρ g (id :: S) (A :: F) w) {p : Plc} {e : Ent} (hid : ρ id = some p) (hr : RepE ρ w p e) (he : e.own = A.1) (hst : st = true ∨ A.1 = true)
    (hf : ∀ b off, foot p e b off → A.2 b off) (hin : ∀ b off, inn p e b off → False := by intro _ _ h; exact h) : Pend st w0 M ρ (upd g id e) S F w := by
  have hn := List.nodup_cons.1 h.nodup
  have hk : kills S (upd g id e) = upd (kills (id :: S) g) id e := by
    funext i
    by_cases hii : i = id
    · subst hii; simp [kills, hn.1]
    · simp only [kills, upd_other _ _ hii, List.mem_cons, hii, false_or]
  have hdead : kills (id :: S) g id = .dead := by simp [kills]
  have hsep := List.pairwise_cons.1 h.sep
  refine ⟨?_, fun i hi => h.known i (by simp [hi]), hn.2, hsep.2, ?_, fun B hB => h.own B (by simp [hB]), fun B hB hB1 i q hq b off h1 h2 => ?_⟩
  · rw [hk]
    refine h.inv.put (Sub.refl ρ) (fun i hi => rfl) hid hdead hr (fun j q hj hq ho b off h1 h2 => ?_) (fun ho b off h1 => h.own A (by simp) (he ▸ ho) b off (hf _ _ h1))
      (fun ho j q hj hq b off h1 h2 => h.din A (by simp) (he ▸ ho) j q hq b off (hf _ _ h1) h2) (fun j q hj hq ho b off h1 h2 => hin b off h2) (fun ho b off h1 h2 => hin b off h2)
    refine h.dis A (by simp) j q hq ?_ b off (hf _ _ h1) h2
    rcases ho with ho | ho
    · exact .inl (he ▸ ho)
    · rcases hst with hst | hst
      · exact .inr ⟨hst, ho⟩
      · exact .inl hst
  · intro B hB i q hq hBo b off h1 h2
    rw [hk] at h2 hBo
    by_cases hii : i = id
    · subst hii
      rw [hid] at hq; cases hq
      rw [upd_same] at h2 hBo
      refine hsep.1 B hB ?_ b off (hf _ _ h2) h1
      rcases hBo with hBo | ⟨_, hBo⟩
      · exact .inr hBo
      · exact .inl (he ▸ hBo)
    · rw [upd_other _ _ hii] at h2 hBo
      exact h.dis B (by simp [hB]) i q hq hBo b off h1 h2
  · rw [hk] at h2
    by_cases hii : i = id
    · subst hii
      rw [hid] at hq; cases hq
      rw [upd_same] at h2
      exact hin b off h2
    · rw [upd_other _ _ hii] at h2
      exact h.din B (by simp [hB]) hB1 i q hq b off h1 h2
theorem Pend.dead {id : Nat} (h : Pend st w0 M ρ g (id :: S) F w) : Pend st w0 M ρ (upd g id .dead) S F w := by
  have hn := List.nodup_cons.1 h.nodup
  have hk : kills S (upd g id .dead) = kills (id :: S) g := by
    funext i
    by_cases hii : i = id
    · subst hii; simp [kills, hn.1]
    · simp only [kills, upd_other _ _ hii, List.mem_cons, hii, false_or]
  exact ⟨by rw [hk]; exact h.inv, fun i hi => h.known i (by simp [hi]), hn.2, h.sep, by rw [hk]; exact h.dis, h.own, by rw [hk]; exact h.din⟩
end

/-! entering -/
theorem Sub.upd {ρ : Env} {id : Nat} {p : Plc} (h : ρ id = none) : Sub ρ (updρ ρ id p) := sub_updρ h
structure Entd (w0 : World) (M : Nat → Nat → Prop) (ρ : Env) (h : List Ent) (F : Feet) (w : World) : Prop where
  pend : Pend true w0 M ρ (ent h) [] F w
  top : ∀ id, h.length ≤ id → ρ id = none
mutual
theorem entD_ok {w0 : World} {M : Nat → Nat → Prop} {w : World} : ∀ (d : D) {v : Value} {F1 F : Feet} {ρ : Env} {h : List Ent}, RepD w d v F1 → Entd w0 M ρ h (F1 ++ F) w →
    ∃ ρ', Entd w0 M ρ' (entD d h).2 F w ∧ Sub ρ ρ' ∧ RepV ρ' (entD d h).1 v
  | .int k n, v, F1, F, ρ, h, r, E => by simp only [RepD] at r; obtain ⟨rfl, rfl⟩ := r; exact ⟨ρ, E, Sub.refl ρ, by simp [entD, RepV]⟩
  | .bool b, v, F1, F, ρ, h, r, E => by simp only [RepD] at r; obtain ⟨rfl, rfl⟩ := r; exact ⟨ρ, E, Sub.refl ρ, by simp [entD, RepV]⟩
  | .str b, v, F1, F, ρ, h, r, E => by simp only [RepD] at r; obtain ⟨rfl, rfl⟩ := r; exact ⟨ρ, E, Sub.refl ρ, by simp [entD, RepV]⟩
  | .arr own nil a, v, F1, F, ρ, h, r, E => by
    simp only [RepD] at r
    obtain ⟨p, rfl, hr, rfl⟩ := r
    have hn := E.top h.length (Nat.le_refl _)
    have := E.pend.new (id := h.length) (p := p) (e := .arr own nil a) hn hr rfl (.inl rfl) (fun _ _ h => h)
    rw [← ent_push] at this
    refine ⟨_, ⟨this, fun id hid => ?_⟩, sub_updρ hn, ?_⟩
    · simp only [entD, List.length_append, List.length_cons, List.length_nil] at hid
      rw [updρ_other _ _ (by omega)]; exact E.top id (by omega)
    · simp only [entD, RepV]; exact ⟨p, updρ_same _ _ _, rfl⟩
  | .rows nil z l, v, F1, F, ρ, h, r, E => by
    simp only [RepD] at r
    obtain ⟨p, rfl, hr, rfl⟩ := r
    have hn := E.top h.length (Nat.le_refl _)
    have := E.pend.newR (id := h.length) (p := p) (e := .rows false nil z l) hn hr rfl (fun _ _ h => h) (fun _ _ h => h)
    rw [← ent_push] at this
    refine ⟨_, ⟨this, fun id hid => ?_⟩, sub_updρ hn, ?_⟩
    · simp only [entD, List.length_append, List.length_cons, List.length_nil] at hid
      rw [updρ_other _ _ (by omega)]; exact E.top id (by omega)
    · simp only [entD, RepV]; exact ⟨p, updρ_same _ _ _, rfl⟩
  | .agg l, v, F1, F, ρ, h, r, E => by
    simp only [RepD] at r
    obtain ⟨vs, rfl, hr⟩ := r
    obtain ⟨ρ', E', hs, hv⟩ := entDs_ok l hr E
    exact ⟨ρ', by simpa only [entD] using E', hs, by simp only [entD, RepV]; exact ⟨_, rfl, hv⟩⟩
  | .fn f l, v, F1, F, ρ, h, r, E => by
    simp only [RepD] at r
    obtain ⟨vs, rfl, hr⟩ := r
    obtain ⟨ρ', E', hs, hv⟩ := entDs_ok l hr E
    exact ⟨ρ', by simpa only [entD] using E', hs, by simp only [entD, RepV]; exact ⟨_, rfl, hv⟩⟩
  | .ptr own l, v, F1, F, ρ, h, r, E => by
    simp only [RepD] at r
    obtain ⟨x, vs, F', rfl, hx, hr, hc, ht, rfl⟩ := r
    obtain ⟨ρ', E', hs, hv⟩ := entDs_ok l (F := (own, boxFoot x l.length) :: F) hr (by simpa using E)
    have hn := E'.top (entDs l h).2.length (Nat.le_refl _)
    have hl : (entDs l h).1.length = l.length := by rw [← hv.length, hr.length]
    have := E'.pend.new (id := (entDs l h).2.length) (p := ⟨some x, 1, 1, 0, []⟩) (e := .box own (entDs l h).1) hn ⟨rfl, x, vs, rfl, hx, hv.mono (sub_updρ hn) _ _, hc, ht⟩ rfl (.inl rfl)
      (fun b off hf => by rw [foot_box (x := x) rfl] at hf; rw [hl] at hf; exact hf)
    rw [← ent_push] at this
    refine ⟨_, ⟨this, fun id hid => ?_⟩, hs.trans (sub_updρ hn), ?_⟩
    · simp only [entD, List.length_append, List.length_cons, List.length_nil] at hid
      rw [updρ_other _ _ (by omega)]; exact E'.top id (by omega)
    · simp only [entD, RepV]; exact ⟨_, x, updρ_same _ _ _, rfl, by simp, by simp [addr_add_zero]⟩
theorem entDs_ok {w0 : World} {M : Nat → Nat → Prop} {w : World} : ∀ (ds : List D) {vs : List Value} {F1 F : Feet} {ρ : Env} {h : List Ent}, RepDs w ds vs F1 → Entd w0 M ρ h (F1 ++ F) w →
    ∃ ρ', Entd w0 M ρ' (entDs ds h).2 F w ∧ Sub ρ ρ' ∧ RepVs ρ' (entDs ds h).1 vs
  | [], vs, F1, F, ρ, h, r, E => by simp only [RepDs] at r; obtain ⟨rfl, rfl⟩ := r; exact ⟨ρ, E, Sub.refl ρ, by simp [entDs, RepVs]⟩
  | d :: ds, vs, F1, F, ρ, h, r, E => by
    simp only [RepDs] at r
    obtain ⟨u, us, F2, F3, rfl, rfl, h1, h2⟩ := r
    obtain ⟨ρ1, E1, hs1, hv1⟩ := entD_ok d h1 (F := F3 ++ F) (by simpa using E)
    obtain ⟨ρ2, E2, hs2, hv2⟩ := entDs_ok ds h2 E1
    exact ⟨ρ2, by simpa only [entDs] using E2, hs1.trans hs2, by simp only [entDs]; exact RepVs.cons (hv1.mono hs2 _ _) hv2⟩
end
/-- from data alone -/
theorem enter_ok {w : World} {ds : List D} {vs : List Value} {F : Feet} (h : RepDs w ds vs F) (hs : Sep F) : ∃ ρ, Inv w (ownOf F) ρ (ent (entDs ds []).2) w ∧ RepVs ρ (entDs ds []).1 vs ∧ ∀ id, (entDs ds []).2.length ≤ id → ρ id = none := by
  have E0 : Entd w (ownOf F) (fun _ => none) [] (F ++ []) w := by
    refine ⟨⟨?_, by simp, by simp, by simpa using hs, fun A hA id p hp => by simp at hp, fun A hA ho b off hf => .inl ⟨A, by simpa using hA, ho, hf⟩, fun A hA ho id p hp => by simp at hp⟩, fun _ _ => rfl⟩
    have he : kills [] (ent []) = fun _ => .dead := by funext id; simp [kills, ent]
    rw [he]
    exact ⟨⟨fun id hid => absurd rfl hid, fun i j p q _ hp => by simp at hp, fun i j p q hp => by simp at hp⟩, Fr.refl _ w, fun id p hp => by simp at hp⟩
  obtain ⟨ρ, E, _, hv⟩ := entDs_ok ds h E0
  exact ⟨ρ, by simpa [kills_nil] using E.pend.inv, hv, E.top⟩
end Go.Ev
