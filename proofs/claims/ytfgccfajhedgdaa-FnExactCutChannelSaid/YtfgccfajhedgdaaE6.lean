/- The evaluator: stores. -/
import Derived.Test.YtfgccfajhedgdaaE5
namespace Go.Ev
set_option linter.unusedSimpArgs false
set_option linter.unusedVariables false
open Go Go.RowKit
section
variable {cal : Nat → List D → Option (List D)} {l : List Ac} {v : AV} {w0 : World} {M : Nat → Nat → Prop} {ρ : Env} {g : Hp} {w w' : World} {P : Program}

/-- a row of cells with some in the middle turned -/
def mid {α : Type} (l : List α) (k : Nat) (m : List α) : List α := l.take k ++ m ++ l.drop (k + m.length)
theorem mid_length {α : Type} {l : List α} {k : Nat} {m : List α} (h : k + m.length ≤ l.length) : (mid l k m).length = l.length := by
  simp only [mid, List.length_append, List.length_take, List.length_drop]; omega
theorem mid_get {α : Type} {l : List α} {k : Nat} {m : List α} (h : k + m.length ≤ l.length) (j : Nat) :
    (mid l k m)[j]? = if k ≤ j ∧ j < k + m.length then m[j - k]? else l[j]? := by
  unfold mid
  rcases Nat.lt_or_ge j k with h1 | h1
  · rw [if_neg (by omega), List.append_assoc, List.getElem?_append_left (by rw [List.length_take]; omega), List.getElem?_take, if_pos h1]
  · rcases Nat.lt_or_ge j (k + m.length) with h2 | h2
    · rw [if_pos ⟨h1, h2⟩, List.append_assoc, List.getElem?_append_right (by rw [List.length_take]; omega), List.getElem?_append_left (by rw [List.length_take]; omega), List.length_take, Nat.min_eq_left (by omega)]
    · rw [if_neg (by omega), List.getElem?_append_right (by rw [List.length_append, List.length_take]; omega), List.getElem?_drop, List.length_append, List.length_take, Nat.min_eq_left (by omega)]
      congr 1; omega
theorem mid_rep {cs ds : List AV} {us vs : List Value} {k : Nat} (h : RepVs ρ cs us) (hm : RepVs ρ ds vs) : RepVs ρ (mid cs k ds) (mid us k vs) := by
  unfold mid
  rw [hm.length]
  exact ((h.take k).append hm).append (h.drop _)
theorem mid_one {α : Type} {l : List α} {i : Nat} {x : α} (h : i < l.length) : l.set i x = mid l i [x] := by
  rw [List.set_eq_take_append_cons_drop, if_pos h]; simp [mid]
theorem flatMap_mid {α β : Type} {f : α → List β} {n : Nat} (hf : ∀ x, (f x).length = n) (l : List α) (i : Nat) (x : α) (h : i < l.length) :
    (l.set i x).flatMap f = mid (l.flatMap f) (i * n) (f x) := by
  rw [mid_one h]
  simp only [mid, List.flatMap_append, List.flatMap_cons, List.flatMap_nil, List.append_nil, List.length_cons, List.length_nil, Nat.zero_add, hf]
  rw [flatMap_take hf, show i * n + n = (i + 1) * n from by rw [Nat.add_mul, Nat.one_mul], flatMap_drop hf]
theorem mid_sub {α : Type} {l e e' : List α} {k o n : Nat} {m : List α} (he : (l.drop k).take n = e) (hn : e.length = n) (hk : k + n ≤ l.length) (ho : o + m.length ≤ n) (h : e' = mid e o m) :
    mid l k e' = mid l (k + o) m := by
  subst h
  have hl : (mid e o m).length = e.length := mid_length (by omega)
  apply List.ext_getElem?
  intro j
  rw [mid_get (l := l) (k := k) (m := mid e o m) (by omega), mid_get (l := l) (k := k + o) (m := m) (by omega), hl]
  by_cases h1 : k ≤ j ∧ j < k + e.length
  · rw [if_pos h1, mid_get (l := e) (k := o) (m := m) (by omega)]
    by_cases h2 : o ≤ j - k ∧ j - k < o + m.length
    · rw [if_pos h2, if_pos (by omega)]
      congr 1; omega
    · rw [if_neg h2, if_neg (by omega), ← he, List.getElem?_take, if_pos (by omega), List.getElem?_drop]
      congr 1; omega
  · rw [if_neg h1, if_neg (by omega)]
theorem Arr.elem_cells (a : Arr) (ρ : Env) (i : Nat) (h : i < a.len) : ∃ us, (a.cells.drop (i * a.size)).take a.size = us ∧ us.length = a.size ∧ RepVs ρ (a.get i) us :=
  ⟨_, rfl, by rw [List.length_take, List.length_drop, a.cells_length]; have : (i + 1) * a.size ≤ a.len * a.size := Nat.mul_le_mul_right _ h; rw [Nat.add_mul] at this; omega, a.get_rep ρ i h⟩
theorem Arr.set_spec {a b : Arr} {i o : Nat} {cs : List AV} {vs : List Value} (h : a.set i o cs = some b) (hi : i < a.len) (hr : RepVs ρ cs vs) :
    b.len = a.len ∧ b.size = a.size ∧ o + vs.length ≤ a.size ∧ b.cells = mid a.cells (i * a.size + o) vs := by
  cases a with
  | ints k l =>
    simp only [Arr.set] at h
    split at h
    · split at h
      · rename_i hk; subst hk
        cases h
        simp only [RepVs, RepV] at hr
        obtain ⟨_, _, rfl, rfl, rfl⟩ := hr
        refine ⟨by simp [Arr.len], rfl, by simp [Arr.size], ?_⟩
        simp only [Arr.cells, Arr.size, Nat.mul_one, Nat.add_zero, List.map_set]
        exact mid_one (by simpa [Arr.len] using hi)
      · cases h
    · cases h
  | bools l =>
    simp only [Arr.set] at h
    split at h
    · cases h
      simp only [RepVs, RepV] at hr
      obtain ⟨_, _, rfl, rfl, rfl⟩ := hr
      refine ⟨by simp [Arr.len], rfl, by simp [Arr.size], ?_⟩
      simp only [Arr.cells, Arr.size, Nat.mul_one, Nat.add_zero, List.map_set]
      exact mid_one (by simpa [Arr.len] using hi)
    · cases h
  | strs l =>
    simp only [Arr.set] at h
    split at h
    · cases h
      simp only [RepVs, RepV] at hr
      obtain ⟨_, _, rfl, rfl, rfl⟩ := hr
      refine ⟨by simp [Arr.len], rfl, by simp [Arr.size], ?_⟩
      simp only [Arr.cells, Arr.size, Nat.mul_one, Nat.add_zero, List.map_set]
      exact mid_one (by simpa [Arr.len] using hi)
    · cases h
  | r3 l =>
    simp only [Arr.len] at hi
    have hlen : (l.flatMap fun x : Int × Int × Int => [Value.int .i64 x.1, .int .i64 x.2.1, .int .i64 x.2.2]).length = l.length * 3 := flatMap_length_const (by simp)
    have helem : ((l.flatMap fun x : Int × Int × Int => [Value.int .i64 x.1, .int .i64 x.2.1, .int .i64 x.2.2]).drop (i * 3)).take 3 = [.int .i64 (l.getD i (0, 0, 0)).1, .int .i64 (l.getD i (0, 0, 0)).2.1, .int .i64 (l.getD i (0, 0, 0)).2.2] := by
      have t := flatMap_take (g := fun x : Int × Int × Int => [Value.int .i64 x.1, .int .i64 x.2.1, .int .i64 x.2.2]) (n := 3) (by simp) (l.drop i) 1
      rw [Nat.one_mul] at t
      rw [flatMap_drop (n := 3) (by simp), t, drop_take_one _ _ hi, getD_of_lt hi]
      simp
    simp only [Arr.set] at h
    split at h
    · cases h
      simp only [RepVs, RepV] at hr
      obtain ⟨_, _, rfl, rfl, _, _, rfl, rfl, _, _, rfl, rfl, rfl⟩ := hr
      refine ⟨by simp [Arr.len], rfl, by simp [Arr.size], ?_⟩
      simp only [Arr.cells, Arr.size, Nat.add_zero]
      exact flatMap_mid (n := 3) (by simp) l i _ hi
    · cases h
      simp only [RepVs, RepV] at hr
      obtain ⟨_, _, rfl, rfl, rfl⟩ := hr
      refine ⟨by simp [Arr.len], rfl, by simp [Arr.size], ?_⟩
      simp only [Arr.cells, Arr.size]
      rw [flatMap_mid (n := 3) (by simp) l i _ hi]
      exact mid_sub helem rfl (by rw [hlen]; omega) (by simp) (by simp [mid])
    · cases h
      simp only [RepVs, RepV] at hr
      obtain ⟨_, _, rfl, rfl, rfl⟩ := hr
      refine ⟨by simp [Arr.len], rfl, by simp [Arr.size], ?_⟩
      simp only [Arr.cells, Arr.size]
      rw [flatMap_mid (n := 3) (by simp) l i _ hi]
      exact mid_sub helem rfl (by rw [hlen]; omega) (by simp) (by simp [mid])
    · cases h
      simp only [RepVs, RepV] at hr
      obtain ⟨_, _, rfl, rfl, rfl⟩ := hr
      refine ⟨by simp [Arr.len], rfl, by simp [Arr.size], ?_⟩
      simp only [Arr.cells, Arr.size]
      rw [flatMap_mid (n := 3) (by simp) l i _ hi]
      exact mid_sub helem rfl (by rw [hlen]; omega) (by simp) (by simp [mid])
    · cases h
  | r4 l =>
    simp only [Arr.len] at hi
    simp only [Arr.set] at h
    split at h
    · cases h
      simp only [RepVs, RepV] at hr
      obtain ⟨_, _, rfl, rfl, _, _, rfl, rfl, _, _, rfl, rfl, _, _, rfl, rfl, rfl⟩ := hr
      refine ⟨by simp [Arr.len], rfl, by simp [Arr.size], ?_⟩
      simp only [Arr.cells, Arr.size, Nat.add_zero]
      exact flatMap_mid (n := 4) (by simp) l i _ hi
    · cases h

theorem own_heap {e : TypeId} {p : Plc} {cs : List Value} {x : Addr} (h : w.ownsRow 0 e p.size (.slice p.base p.len p.cap) p.len cs) (hb : p.base = some x) :
    ∃ cur, x = ⟨x.block, 0, none⟩ ∧ w.heap[x.block]? = some (.cells cur e (0, 0)) ∧ p.len ≤ p.cap ∧ p.cap ≤ maxLen ∧ cur.size = p.cap * p.size ∧ cur.toList.take (p.len * p.size) = cs ∧ cs.length = p.len * p.size := by
  rcases h.2 with ⟨h1, _⟩ | ⟨b, cap, cur, h1, _, h2, h3, h4, h5, h6⟩
  · rw [hb] at h1; cases h1
  · rw [hb] at h1; cases h1
    exact ⟨cur, rfl, h2, h3, h4, h5, h6, h.1⟩
theorem own_of_cells {e : TypeId} {p : Plc} {cs : List Value} {b : Nat} {cur : Array Value} (hb : p.base = some ⟨b, 0, none⟩) (hh : w.heap[b]? = some (.cells cur e (0, 0))) (h3 : p.len ≤ p.cap) (h4 : p.cap ≤ maxLen)
    (h5 : cur.size = p.cap * p.size) (hc : CellsL w ⟨b, 0, none⟩ cs) (hl : cs.length = p.len * p.size) : w.ownsRow 0 e p.size (.slice p.base p.len p.cap) p.len cs := by
  refine ⟨hl, .inr ⟨b, p.cap, cur, by rw [hb], Nat.zero_le _, hh, h3, h4, h5, ?_⟩⟩
  have hle : p.len * p.size ≤ p.cap * p.size := Nat.mul_le_mul_right _ h3
  apply List.ext_getElem?
  intro j
  rw [List.getElem?_take]
  split
  · rename_i hj
    have hj' : j < cs.length := by omega
    have h0 := hc j cs[j] (List.getElem?_eq_getElem hj')
    have ha : (⟨b, 0, none⟩ : Addr).add j = ⟨b, j, none⟩ := by unfold Addr.add; split <;> simp_all
    rw [ha] at h0
    simp only [World.cell?, hh] at h0
    rw [List.getElem?_eq_getElem hj']
    simpa using h0
  · rename_i hj
    rw [List.getElem?_eq_none (by omega)]
theorem own_thawed {e : TypeId} {x : Addr} {cur : Array Value} (h : w.heap[x.block]? = some (.cells cur e (0, 0))) (n : Nat) : Thawed w x n := by
  intro j hj
  simp [World.frozen?, addr_block, h]

theorem storeP_ok {t : TypeId} {x c : AV} {xv cv : Value} (S : Sit cal (storeP P t x c) l v w0 M ρ g w) (hx : RepV ρ x xv) (hc : RepV ρ c cv) :
    v = .un ∧ ∃ w', (Instr.storeAt t xv cv).run P w = .ok () w' ∧ Fin w0 M l g ρ w' (fun _ => True) := by
  unfold storeP at S
  split at S
  · rename_i id i o
    have S0 := S.chk; clear S; obtain ⟨hk, S⟩ := S0
    obtain ⟨c', l1, g1, ρ1, S1, hc', hs, hF⟩ := fixT_ok S hc
    clear S
    have hx := RepV.mono hs _ _ hx
    have S0 := S1.chk; clear S1; obtain ⟨hone, S1⟩ := S0
    simp only [Bool.and_eq_true] at hone
    obtain ⟨hone, hsz⟩ := hone
    have hsz := Nat.eq_of_beq_eq_true hsz
    obtain ⟨hcr, hco⟩ := cells_rep hc' hone
    simp only [RepV] at hx
    obtain ⟨p, a, hp, hb, hi, rfl⟩ := hx
    obtain ⟨d, hd, hu⟩ := known_some hk
    have hsize : cv.cells.size = P.cellsOf t := by have := hcr.length; simp only [Array.length_toList] at this; omega
    have hrun : ∀ w' , (storeCells (a.add (i * p.size + o)) cv.cells.toList).run P w = .ok () w' → (Instr.storeAt t (.pointer (some (a.add (i * p.size + o)))) cv).run P w = .ok () w' := by
      intro w' h
      simp [Instr.storeAt, Instr.sureAddr, storeVar, run_sizeOf hd, hsize, h]
    have S0 := S1.rd; clear S1; obtain ⟨l2, rfl, S1⟩ := S0
    split at S1
    · rename_i cs hg
      split at S1
      · have S0 := S1.chk; clear S1; obtain ⟨hle, S1⟩ := S0
        have hle := Nat.le_of_ble_eq_true hle
        obtain ⟨l3, rfl, hd3, hS3⟩ := S1.wr
        obtain ⟨q, hq, hr⟩ := S1.inv.ok.rep id (by rw [hg]; simp)
        rw [hp] at hq; cases hq
        rw [hg] at hr
        obtain ⟨h1, y, us, hy, hspot, hus, hcl, hth⟩ := hr
        rw [hb] at hy; cases hy
        have hlen : o + cv.cells.toList.length ≤ us.length := by rw [hus.length, hcr.length]; exact hle
        have hsp : (a.add (0 * p.size + o)).spot = none := by unfold Addr.add; split <;> simp [hspot]
        obtain ⟨w', hr', hfr, hnew, hfz⟩ := storeCells_ok (P := P) (a.add (0 * p.size + o)) hsp cv.cells.toList 0 w (by
          intro j hj
          rw [addr_add_add, show 0 * p.size + o + (0 + j) = o + j from by omega]
          exact ⟨⟨_, hcl (o + j) _ (List.getElem?_eq_getElem (by omega))⟩, hth rfl _ (by omega)⟩) hco
        simp only [addr_block, addr_off, Nat.zero_add, addr_add_add, Nat.zero_mul] at hfr hnew
        have hI := S1.inv.turn (id := id) (p := p) (e := .box true (mid cs o c'.cells)) hp (by rw [hg]; rfl) hfr
          (by
            rintro b off ⟨rfl, h2, h3⟩
            rw [hg]
            refine ⟨a, hb, rfl, by omega, ?_⟩
            rw [← hus.length]; omega)
          (by
            refine ⟨h1, a, mid us o cv.cells.toList, hb, hspot, mid_rep hus hcr, ?_, ?_⟩
            · intro j u hj
              rw [mid_get hlen] at hj
              split at hj
              · rename_i hjj
                have := hnew (j - o) u hj
                rwa [show o + (j - o) = j from by omega] at this
              · rename_i hjj
                refine hfr.cell (hcl j u hj) ?_
                rw [addr_block, addr_off]
                rintro ⟨_, h2, h3⟩
                exact hjj ⟨by omega, by omega⟩
            · intro _ j hj
              rw [mid_length hlen] at hj
              rw [hfz]; exact hth rfl j hj)
          (by
            rintro b off ⟨z, hz, rfl, h2, h3⟩
            rw [hg]
            refine ⟨z, hz, rfl, h2, ?_⟩
            rw [mid_length (by rw [← hcr.length, ← hus.length]; exact hlen)] at h3
            exact h3)
        obtain ⟨rfl, rfl⟩ := (hS3 w' hI).ret
        exact ⟨rfl, w', hrun w' hr', hF _ _ (Fin.here hI trivial).wr.rd⟩
      · exact S1.fail
    · rename_i nil ar hg
      split at S1
      · rename_i br hbr
        obtain ⟨l3, rfl, hd3, hS3⟩ := S1.wr
        obtain ⟨q, hq, hr⟩ := S1.inv.ok.rep id (by rw [hg]; simp)
        rw [hp] at hq; cases hq
        rw [hg] at hr
        obtain ⟨h1, h2, h3, h4, h5, h6⟩ := hr
        obtain ⟨h7, h8⟩ := h5 a hb
        obtain ⟨e, he⟩ := h6 rfl
        obtain ⟨cur, hax, hheap, _, hcm, hcs, hct, hcl⟩ := own_heap he hb
        obtain ⟨k1, k2, k3, k4⟩ := Arr.set_spec hbr (by omega) hcr
        rw [h2] at k3 k4
        have hmul : (i + 1) * p.size ≤ p.len * p.size := Nat.mul_le_mul_right _ hi
        rw [Nat.add_mul, Nat.one_mul] at hmul
        have hlen : i * p.size + o + cv.cells.toList.length ≤ ar.cells.length := by rw [hcl]; omega
        have hspot : a.spot = none := by rw [hax]
        have hoff : a.off = 0 := by rw [hax]
        have hsp : (a.add (i * p.size + o)).spot = none := by unfold Addr.add; split <;> simp [hspot]
        obtain ⟨w', hr', hfr, hnew, hfz⟩ := storeCells_ok (P := P) (a.add (i * p.size + o)) hsp cv.cells.toList 0 w (by
          intro j hj
          rw [addr_add_add]
          exact ⟨⟨_, h8 (i * p.size + o + (0 + j)) _ (List.getElem?_eq_getElem (by omega))⟩, own_thawed hheap (i * p.size + o + (0 + j) + 1) _ (by omega)⟩) hco
        simp only [addr_block, addr_off, Nat.zero_add, Nat.add_zero, addr_add_add] at hfr hnew
        have hcl' : CellsL w' a br.cells := by
          intro j u hj
          rw [k4, mid_get hlen] at hj
          split at hj
          · rename_i hjj
            have := hnew (j - (i * p.size + o)) u hj
            rwa [show i * p.size + o + (j - (i * p.size + o)) = j from by omega] at this
          · rename_i hjj
            refine hfr.cell (h8 j u hj) ?_
            rw [addr_block, addr_off]
            rintro ⟨_, h2, h3⟩
            exact hjj ⟨by omega, by omega⟩
        have hheap' : ∃ cur', w'.heap[a.block]? = some (.cells cur' e (0, 0)) ∧ cur'.size = cur.size := by
          rcases hfr.shell a.block (Array.getElem?_eq_some_iff.1 hheap).1 with ⟨c1, c2, tt, z, m1, m2, m3, _⟩ | m1 | ⟨c1, t1, c2, t2, m1, m2, m3⟩
          · rw [hheap] at m1; cases m1
            exact ⟨c2, m2, m3⟩
          · exact ⟨cur, m1.trans hheap, rfl⟩
          · rw [hheap] at m1; cases m1
        obtain ⟨cur', hheap', hcs'⟩ := hheap'
        have hI := S1.inv.turn (id := id) (p := p) (e := .arr true nil br) hp (by rw [hg]; rfl) hfr
          (by
            rintro b off ⟨rfl, h2, h3⟩
            rw [hg]
            exact ⟨a, hb, rfl, .inl rfl⟩)
          (by
            refine ⟨k1.trans h1, k2.trans h2, h3, h4, ?_, ?_⟩
            · intro x hx
              rw [hb] at hx; cases hx
              exact ⟨h7, hcl'⟩
            · intro _
              refine ⟨e, own_of_cells (b := a.block) (by rw [hb, ← hax]) hheap' h7 hcm (hcs'.trans hcs) (by rw [← hax]; exact hcl') ?_⟩
              rw [br.cells_length, k1, k2, h1, h2])
          (by
            rintro b off ⟨z, hz, rfl, _⟩
            rw [hg]
            exact ⟨z, hz, rfl, .inl rfl⟩)
        obtain ⟨rfl, rfl⟩ := (hS3 w' hI).ret
        exact ⟨rfl, w', hrun w' hr', hF _ _ (Fin.here hI trivial).wr.rd⟩
      · exact S1.fail
    · exact S1.fail
  · exact S.fail
end
end Go.Ev
