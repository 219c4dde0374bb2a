/- Rows of cells: copied, cleared, spliced; of no program. -/
import Derived.Test.YtjfjniebmdafeaaGreatDoorE26
import Derived.Shelf.Spec.SlicesInsert
import Derived.Lib.AppendZerosOnto
import Derived.Laws.NewBlocks
namespace Go.Ev
open Go Go.RowKit
set_option linter.unusedVariables false
set_option linter.unusedSimpArgs false
set_option linter.unnecessarySimpa false
variable {P : Program}
/-- a row with cells from o on turned -/
abbrev spl (cur : Array Value) (o : Nat) (cs : List Value) : Array Value := (cur.toList.take o ++ cs ++ cur.toList.drop (o + cs.length)).toArray
theorem spl_size {cur : Array Value} {o : Nat} {cs : List Value} (h : o + cs.length ≤ cur.size) : (spl cur o cs).size = cur.size := by
  simp only [spl, List.size_toArray, List.length_append, List.length_take, List.length_drop, Array.length_toList]; omega
theorem spl_get {cur : Array Value} {o : Nat} {cs : List Value} (h : o + cs.length ≤ cur.size) (j : Nat) : (spl cur o cs).toList[j]? = if o ≤ j ∧ j < o + cs.length then cs[j - o]? else cur.toList[j]? := by
  simp only [spl, List.getElem?_append, List.length_append, List.length_take, Array.length_toList, List.getElem?_take, List.getElem?_drop, List.length_drop]
  have hm : min o cur.size = o := by omega
  rw [hm]
  by_cases h1 : j < o
  · rw [if_pos (by omega), if_pos h1, if_pos h1, if_neg (by omega)]
  · by_cases h2 : j < o + cs.length
    · rw [if_pos h2, if_neg h1, if_pos ⟨by omega, h2⟩]
    · rw [if_neg h2, if_neg (by omega)]
      congr 1; omega
theorem run_copy_rows (w : World) (dT sT ty elem : TypeId) (sz g o dLen dCap : Nat) (a : Addr) (sLen sCap : Nat) (cur : Array Value) (t : TypeId) (cs : List Value)
    (hu : P.underlying dT = some (.slice elem)) (hs : (P.info? elem).map (·.size) = some sz)
    (hg : w.heap[g]? = some (.cells cur t (0, 0))) (hn : cs.length = Nat.min sLen dLen * sz)
    (hsrc : ∀ j v, cs[j]? = some v → w.cell? (a.add j) = some v) (hfit : o + cs.length ≤ cur.size) (h1 : ∀ v ∈ cs, v.oneCell' = true) :
    (Builtin.copy_ #[dT, sT] ty #[.slice (some ⟨g, o, none⟩) dLen dCap, .slice (some a) sLen sCap]).run P w =
      .ok (goInt (Nat.min sLen dLen : Nat)) (w.setRow g (spl cur o cs)) := by
  have hl := run_loadCells_list (P := P) w a cs hsrc
  have hst := run_storeCells_at P g o t cs 0 cur w hg (by simpa using hfit) h1
  cases hq : P.info? elem with
  | none => simp [hq] at hs
  | some i =>
    have hi : i.size = sz := by simpa [hq] using hs
    simp [Builtin.copy_, run_underlying hu, Builtin.lenOf, Builtin.firstCells, sizeOf, typeInfo, hq, hi, ← hn, hl, hst, spl]
theorem zeroCells_oneCell {z : Value} (hz : ∀ v ∈ z.cells.toList, v.oneCell' = true) (n : Nat) : ∀ v ∈ (Builtin.zeroCells z.cells n).toList, v.oneCell' = true := by
  intro v hv
  simp only [Builtin.zeroCells, Array.toList_map, Array.toList_range, List.mem_map, List.mem_range] at hv
  obtain ⟨q, hq, rfl⟩ := hv
  have hp : 0 < z.cells.size := by
    rcases Nat.eq_zero_or_pos z.cells.size with h | h
    · rw [h, Nat.mul_zero] at hq; omega
    · exact h
  have hlt := Nat.mod_lt q hp
  rw [getElem!_pos z.cells _ hlt]
  exact hz _ (by simp)
theorem run_clear_rows (w : World) (t e ty : TypeId) (z : Value) (ht : P.underlying t = some (.slice e)) (hv : ∀ w, (zeroValue e).run P w = .ok z w) (h1 : ∀ n, ∀ v ∈ (Builtin.zeroCells z.cells n).toList, v.oneCell' = true) (g o n c : Nat) (hn : 0 < n) (cur : Array Value) (t' : TypeId)
    (hg : w.heap[g]? = some (.cells cur t' (0, 0))) (hfit : o + (Builtin.zeroCells z.cells n).toList.length ≤ cur.size) :
    (Builtin.clear_ #[t] ty #[.slice (some ⟨g, o, none⟩) n c]).run P w = .ok (.tuple #[]) (w.setRow g (spl cur o (Builtin.zeroCells z.cells n).toList)) := by
  have hst := run_storeCells_at P g o t' _ 0 cur w hg (by simpa using hfit) (h1 n)
  obtain ⟨m, rfl⟩ : ∃ m, n = m + 1 := ⟨n - 1, by omega⟩
  simp only [Nat.add_zero] at hst
  simp [Builtin.clear_, run_underlying ht, hv, hst, spl]
/-- what a run of slices.Replace leaves -/
def RepPost (sz : Nat) (w : World) (g n' : Nat) (ys : List Value) (en : Ending) (w' : World) : Prop :=
  ∃ u', en = .returned u' ∧ (∃ e2, w'.ownsRow 0 e2 sz u' n' ys) ∧ Fr (fun b _ => b = g) w w' ∧ ∀ b, u'.ownBlock = some b → b = g ∨ w.heap.size ≤ b
theorem take_take_le {α : Type} (l : List α) {a n : Nat} (h : a ≤ n) : (l.take n).take a = l.take a := by rw [List.take_take, Nat.min_eq_left h]
theorem spl_take {cur : Array Value} {o : Nat} {cs : List Value} (h : o + cs.length ≤ cur.size) : (spl cur o cs).toList.take (o + cs.length) = cur.toList.take o ++ cs := by
  have hl : (cur.toList.take o ++ cs).length = o + cs.length := by rw [List.length_append, List.length_take, Array.length_toList]; omega
  rw [← hl]; exact List.take_left
theorem spl_take_lo {cur : Array Value} {o : Nat} {cs : List Value} {k : Nat} (hk : k ≤ o) (h : o ≤ cur.size) : (spl cur o cs).toList.take k = cur.toList.take k := by
  show List.take k (cur.toList.take o ++ cs ++ cur.toList.drop (o + cs.length)) = _
  rw [List.append_assoc, List.take_append_of_le_length (by rw [List.length_take, Array.length_toList]; omega), take_take_le _ hk]
theorem spl_drop_hi {cur : Array Value} {o : Nat} {cs : List Value} {k : Nat} (hk : o + cs.length ≤ k) (h : o + cs.length ≤ cur.size) : (spl cur o cs).toList.drop k = cur.toList.drop k := by
  have hl : (cur.toList.take o ++ cs).length = o + cs.length := by rw [List.length_append, List.length_take, Array.length_toList]; omega
  show List.drop k (cur.toList.take o ++ cs ++ cur.toList.drop (o + cs.length)) = _
  rw [List.drop_append, List.drop_of_length_le (by omega), List.nil_append, hl, List.drop_drop]
  congr 1; omega
theorem get_drop {cur : Array Value} {cs : List Value} {o : Nat} {L : Nat} (h : (cur.toList.drop o).take L = cs) (q : Nat) (v : Value) (hq : cs[q]? = some v) : cur[o + q]? = some v := by
  rw [← h, List.getElem?_take] at hq
  split at hq
  · rw [List.getElem?_drop] at hq; simpa using hq
  · cases hq
theorem own_clear {w : World} {e2 e : TypeId} {sz g g1 k cap1 o : Nat} {ys zs : List Value} {cur1 : Array Value} (hown : w.ownsRow 0 e2 sz (.slice (some ⟨g1, 0, none⟩) k cap1) k ys) (hg : w.heap[g]? = some (.cells cur1 e (0, 0))) (ho : k * sz ≤ o) (hfit : o + zs.length ≤ cur1.size) :
    (w.setRow g (spl cur1 o zs)).ownsRow 0 e2 sz (.slice (some ⟨g1, 0, none⟩) k cap1) k ys := by
  obtain ⟨h1, h2⟩ := hown
  refine ⟨h1, .inr ?_⟩
  rcases h2 with ⟨h2, _⟩ | ⟨g', cap, cur, h2, h3, h4, h5, h6, h7, h8⟩
  · simp at h2
  · simp only [Value.slice.injEq, Option.some.injEq, Addr.mk.injEq, and_true, true_and] at h2
    obtain ⟨rfl, rfl⟩ := h2
    by_cases hgg : g1 = g
    · subst hgg
      rw [hg] at h4
      cases h4
      refine ⟨g1, cap1, _, rfl, h3, setRow_heap w g1 cur1 _ e2 _ hg, h5, h6, by rw [spl_size hfit]; exact h7, ?_⟩
      rw [spl_take_lo ho (by omega)]; exact h8
    · exact ⟨g1, cap1, cur, rfl, h3, by rw [setRow_other w g g1 _ hgg]; exact h4, h5, h6, h7, h8⟩
theorem own_make {w : World} {g n c sz : Nat} {e : TypeId} {cur : Array Value} {ys : List Value} (hg : w.heap[g]? = some (.cells cur e (0, 0))) (hl : ys.length = n * sz) (hnc : n ≤ c) (hc : c ≤ maxLen) (hs : cur.size = c * sz) (ht : cur.toList.take (n * sz) = ys) :
    w.ownsRow 0 e sz (.slice (some ⟨g, 0, none⟩) n c) n ys := ⟨hl, .inr ⟨g, c, cur, rfl, Nat.zero_le _, hg, hnc, hc, hs, ht⟩⟩
theorem fr_at {w w1 : World} {g : Nat} {cur : Array Value} {e : TypeId} (h : Fr (fun b _ => b = g) w w1) (hg : w.heap[g]? = some (.cells cur e (0, 0))) : ∃ cur1 : Array Value, w1.heap[g]? = some (.cells cur1 e (0, 0)) ∧ cur1.size = cur.size := by
  have hlt : g < w.heap.size := (Array.getElem?_eq_some_iff.1 hg).1
  rcases h.shell g hlt with ⟨c, c', t, z, h1, h2, h3, _⟩ | h1 | ⟨c, t, c', t', h1, _⟩
  · rw [hg] at h1; cases h1; exact ⟨c', h2, h3⟩
  · exact ⟨cur, by rw [h1]; exact hg, rfl⟩
  · rw [hg] at h1; cases h1
theorem shape_of {w : World} {a : Addr} {vs : List Value} (hl : 1 ≤ vs.length) (hv : ∀ q v, vs[q]? = some v → w.cell? (a.add q) = some v) : ∃ tB kB, w.shape? a.block = some (tB, kB) ∧ kB ≠ 0 := by
  obtain ⟨v0, hv0⟩ : ∃ v0, vs[0]? = some v0 := ⟨vs[0]'(by omega), List.getElem?_eq_getElem (by omega)⟩
  have := hv 0 v0 hv0
  simp only [World.cell?, addr_block] at this
  split at this
  · rename_i c0 e0 f0 hh
    refine ⟨e0, c0.size, by simp [World.shape?, hh], ?_⟩
    split at this
    · cases this
    · have := (Array.getElem?_eq_some_iff.1 this).1; omega
  · cases this
theorem cell_at {W : World} {g : Nat} {cu : Array Value} {e : TypeId} {o q : Nat} {v : Value} (h : W.heap[g]? = some (.cells cu e (0, 0))) (hq : cu[o + q]? = some v) : W.cell? ((⟨g, o, none⟩ : Addr).add q) = some v := by
  rw [Addr.add_lit]; simp only [World.cell?, h]; simpa using hq
theorem cell_setRow {w : World} {g : Nat} {c : Array Value} {a : Addr} {q : Nat} (h : a.block ≠ g) : (w.setRow g c).cell? (a.add q) = w.cell? (a.add q) := by
  simp only [World.cell?, addr_block]
  rw [setRow_other w g a.block c h]
theorem fr_new {w w1 : World} {g N : Nat} {cur new : Array Value} {e : TypeId} (h : Fr (fun b _ => b = g ∨ w.heap.size ≤ b) w w1) (hN : w.heap.size ≤ N) (hg : w1.heap[N]? = some (.cells cur e (0, 0))) (hs : new.size = cur.size) : Fr (fun b _ => b = g ∨ w.heap.size ≤ b) w (w1.setRow N new) :=
  h.trans ((fr_row hg hs).mono fun x y _ hx => Or.inr (by omega))
/-- slices.Replace on data: a[i:j] becomes v -/
def repA (a v : Arr) (i j : Nat) : Option Arr := ((a.sub 0 i).app v).bind fun b => b.app (a.sub j (a.len - j))
def repGo (a v : Arr) (i j : Int) : Option (List D) :=
  cond (decide (0 ≤ i) && decide (i < j) && decide (j ≤ (a.len : Int)) && decide (1 ≤ v.len) && !decide (i + (v.len : Int) = j) && decide (a.len ≤ 549755813888) && decide (v.len ≤ 549755813888))
    ((repA a v i.toNat j.toNat).map fun c => [.arr true false c]) none
def repI : List D → Option (List D)
  | [.arr true _ (.ints .i64 l), .int .i64 i, .int .i64 j, .arr false _ (.ints .i64 v)] => repGo (.ints .i64 l) (.ints .i64 v) i j
  | _ => none
def rep3 : List D → Option (List D)
  | [.arr true _ (.r3 l), .int .i64 i, .int .i64 j, .arr false _ (.r3 v)] => repGo (.r3 l) (.r3 v) i j
  | _ => none
theorem repA_spec {a v c : Arr} {i j : Nat} (h : repA a v i j = some c) (hij : i < j) (hj : j ≤ a.len) (hs : v.size = a.size) : c.cells = a.cells.take (i * a.size) ++ v.cells ++ a.cells.drop (j * a.size) ∧ c.len = i + v.len + (a.len - j) ∧ c.size = a.size := by
  unfold repA at h
  cases hb : (a.sub 0 i).app v with
  | none => rw [hb] at h; cases h
  | some b =>
    rw [hb] at h
    have h1 := Arr.app_spec hb
    have h2 := Arr.app_spec h
    have s1 : (a.sub 0 i).size = a.size := by cases a <;> rfl
    have s2 : (a.sub j (a.len - j)).size = a.size := by cases a <;> rfl
    have l1 : (a.sub 0 i).len = i := by cases a <;> simp only [Arr.sub, Arr.len, List.length_take, List.length_drop] at * <;> omega
    have l2 : (a.sub j (a.len - j)).len = a.len - j := by cases a <;> simp only [Arr.sub, Arr.len, List.length_take, List.length_drop] at * <;> omega
    refine ⟨?_, by rw [h2.2.1, h1.2.1, l1, l2], by rw [h2.2.2.1, h1.2.2.1, s1]⟩
    rw [h2.1, h1.1, Arr.sub_cells, Arr.sub_cells, Nat.zero_mul, List.drop_zero]
    congr 1
    apply List.take_of_length_le
    rw [List.length_drop, Arr.cells_length, ← Nat.sub_mul]
    exact Nat.le_refl _
/-- the contract out of the walk -/
theorem rep_contract {P : Program} {F S : Nat} {fn : Func} {a v c : Arr} {i j : Int} {z z' : Bool} (hf : P.funcs[F]? = some fn) (hb : fn.body.isSome = true) (hr : fn.resultTypes = #[S]) (hk : okTs P [S] [.arr true false c] = true)
    (hi : 0 ≤ i) (hij : i < j) (hj : j ≤ (a.len : Int)) (hv : 1 ≤ v.len) (hs : v.size = a.size) (hc : repA a v i.toNat j.toNat = some c)
    (walk : ∀ (w : World) (g cap vc : Nat) (x : Addr) (e' : TypeId), w.ownsRow 0 e' a.size (.slice (some ⟨g, 0, none⟩) a.len cap) a.len a.cells → x.block ≠ g → (∀ q u, v.cells[q]? = some u → w.cell? (x.add q) = some u) →
      Calls P F #[.slice (some ⟨g, 0, none⟩) a.len cap, .int .i64 (i.toNat : Nat), .int .i64 (j.toNat : Nat), .slice (some x) v.len vc] w (RepPost a.size w g (i.toNat + v.len + (a.len - j.toNat)) (a.cells.take (i.toNat * a.size) ++ v.cells ++ a.cells.drop (j.toNat * a.size)))) :
    Contract P F [] [.arr true z a, .int .i64 i, .int .i64 j, .arr false z' v] [.arr true false c] := by
  obtain ⟨s1, s2, s3⟩ := repA_spec hc (by omega) (by omega) hs
  refine ⟨fn, hf, hb, fun w args FF _ _ hd hsep => ?_⟩
  simp only [RepDs, RepD] at hd
  obtain ⟨u0, us0, F0, F0', e0, rfl, ⟨p, rfl, rp, rfl⟩, u1, us1, F1, F1', rfl, rfl, ⟨rfl, rfl⟩, u2, us2, F2, F2', rfl, rfl, ⟨rfl, rfl⟩, u3, us3, F3, F3', rfl, rfl, ⟨p', rfl, rp', rfl⟩, rfl, rfl⟩ := hd
  have ha : args = #[.slice p.base p.len p.cap, .int .i64 i, .int .i64 j, .slice p'.base p'.len p'.cap] := by
    rw [← Array.toArray_toList (xs := args), e0]
  subst ha
  obtain ⟨r1, r2, r3, r4, r5, r6⟩ := rp
  obtain ⟨q1, q2, q3, q4, q5, q6⟩ := rp'
  obtain ⟨e', own⟩ := r6 rfl
  have own0 := own
  obtain ⟨ol, ⟨on, on'⟩ | ⟨g, cap, cur, oe, _, hg, onc, ocm, ocs, otk⟩⟩ := own
  · omega
  simp only [Value.slice.injEq, true_and] at oe
  obtain ⟨ob, oc⟩ := oe
  cases hb' : p'.base with
  | none => have := q4 hb'; omega
  | some x =>
    have q5' := q5 x hb'
    rw [ob] at own0 ⊢
    rw [← r1, ← r2] at own0
    have hva : x.block ≠ g := by
      intro hxg
      have hp := hsep
      simp only [Sep, List.append_nil, List.nil_append, List.cons_append, List.pairwise_cons] at hp
      have := hp.1 _ (List.mem_singleton.2 rfl) (Or.inl trivial) g x.off ⟨⟨g, 0, none⟩, ob, rfl, Or.inl rfl⟩
      refine this ⟨x, hb', hxg, Or.inr ⟨Nat.le_refl _, ?_⟩⟩
      have := v.size_pos
      have : 1 * 1 ≤ v.len * v.size := Nat.mul_le_mul hv this
      omega
    have hw := walk w g p.cap p'.cap x e' own0 hva (fun q u hq => q5'.2 q u hq)
    rw [show ((i.toNat : Nat) : Int) = i by omega, show ((j.toNat : Nat) : Int) = j by omega] at hw
    rw [r1, q1] at hw
    refine hw.mono ?_
    rintro en w' ⟨u', rfl, ⟨e2, hown⟩, hfr, hblk⟩
    rw [← r1, ← q1, ← s1, ← s2] at hown
    rw [← s3] at hown
    have hown0 := hown
    obtain ⟨hl, ⟨_, h0⟩ | ⟨g1, cap1, cur1, rfl, _, hg1, hnc1, hcm1, hcs1, htk1⟩⟩ := hown
    · omega
    have hcell : CellsL w' ⟨g1, 0, none⟩ c.cells := fun q u hq => hown0.cells (g := g1) rfl q u hq
    have hF : ∀ b off, b = g → ownOf ([(true, foot p (.arr true z a))] ++ ([] ++ ([] ++ ([(false, foot p' (.arr false z' v))] ++ [])))) b off := fun b off h =>
      ⟨_, List.mem_cons_self, rfl, ⟨⟨g, 0, none⟩, ob, h.symm, Or.inl rfl⟩⟩
    refine ⟨[.slice (some ⟨g1, 0, none⟩) c.len cap1], [(true, foot ⟨some ⟨g1, 0, none⟩, c.len, cap1, c.size⟩ (.arr true false c))], rfl, by rw [hr]; rfl, ?_, by simp [Sep], hfr.mono fun x y _ h => hF x y h, ?_, by rw [hr]; exact hk, by rw [hr]; rfl, ?_⟩
    · simp only [muts, List.headD_nil, List.tail_nil, if_false, List.append_nil, RepDs, RepD, Bool.false_eq_true]
      refine ⟨_, [], _, [], rfl, (List.append_nil _).symm, ⟨⟨some ⟨g1, 0, none⟩, c.len, cap1, c.size⟩, rfl, ⟨rfl, rfl, by simp, (fun h => by cases h), fun y hy => ?_, fun _ => ⟨e2, hown0⟩⟩, rfl⟩, rfl, rfl⟩
      cases hy
      exact ⟨hnc1, hcell⟩
    · rintro b off ⟨A, hA, _, hf⟩
      rw [List.mem_singleton] at hA
      subst hA
      obtain ⟨y, hy, rfl, _⟩ := hf
      cases hy
      rcases hblk g1 rfl with h | h
      · exact Or.inl (hF _ _ h)
      · exact Or.inr h
    · simp [muts, Ros]
end Go.Ev
