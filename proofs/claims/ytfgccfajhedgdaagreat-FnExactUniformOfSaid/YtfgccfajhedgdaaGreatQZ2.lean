/- What the program's functions compute, and plain facts of it (part 2). No condition beyond those that each theorem states. -/
import Derived.Test.YtfgccfajhedgdaaGreatQZ1
set_option linter.unusedVariables false
set_option linter.unusedSimpArgs false
section
namespace Go.Proofs.YtfgccfajhedgdaaGreat
open Go.RowKit Go.Lib Go.Ev Go.Shelf
theorem qgv (w : World) (q : Nat) : Fr (fun _ _ => False) w (w.drewN q) := ⟨rfl, rfl, rfl, Nat.le_refl _, fun _ _ => .inr (.inl rfl)⟩

theorem qn9 : ∀ w, (zeroValue 3).run Tryz.prog w = .ok (.int .i64 0) w := fun w => by
  obtain ⟨i0, hi, h0, h1, h2⟩ := info_parts qg2
  simp [zeroValue, typeInfo, hi, h0]
set_option maxHeartbeats 1000000 in
set_option maxRecDepth 100000 in
theorem qk5 (w : World) (g n c i j m vc : Nat) (a : Addr) (xs vs : List Value) (e' : TypeId) (hij : i < j) (hj : j ≤ n) (hm : 1 ≤ m) (hne : i + m ≠ j) (hn : n ≤ 549755813888) (hmb : m ≤ 549755813888)
    (own : w.ownsRow 0 e' 1 (.slice (some ⟨g, 0, none⟩) n c) n xs) (hva : a.block ≠ g) (hvl : vs.length = m * 1) (hv : ∀ q v, vs[q]? = some v → w.cell? (a.add q) = some v)
    (h1c : ∀ v ∈ xs, v.oneCell' = true) (h1v : ∀ v ∈ vs, v.oneCell' = true) :
    Calls Tryz.prog 88 #[.slice (some ⟨g, 0, none⟩) n c, .int .i64 i, .int .i64 j, .slice (some a) m vc] w (RepPost 1 w g (i + m + (n - j)) (xs.take (i * 1) ++ vs ++ xs.drop (j * 1))) := by
  have own0 := own
  obtain ⟨hxl, hx | ⟨g', cap, cur, e1, _, hg, hnc, hcm, hcs, htk⟩⟩ := own
  · simp at hx
  simp only [Value.slice.injEq, Option.some.injEq, Addr.mk.injEq, and_true, true_and] at e1
  obtain ⟨rfl, rfl⟩ := e1
  have hcm' := hcm
  unfold maxLen at hcm'
  obtain ⟨i0, hi, hz0, hzs, hzb⟩ := info_parts qg2
  have hlt : g < w.heap.size := (Array.getElem?_eq_some_iff.1 hg).1
  have hcur : cur.toList.length = c * 1 := by rw [Array.length_toList]; exact hcs
  have htA : xs.take (i * 1) = cur.toList.take (i * 1) := by rw [← htk, take_take_le _ (by omega)]
  have h1z : ∀ n, ∀ v ∈ (Builtin.zeroCells ((.int .i64 0) : Value).cells n).toList, v.oneCell' = true := fun n => zeroCells_oneCell (by intro v hv; simp [Value.cells] at hv; rcases hv with rfl | rfl | rfl <;> rfl) n
  have lz : ∀ n, (Builtin.zeroCells ((.int .i64 0) : Value).cells n).toList.length = n * 1 := fun n => by simp [Builtin.zeroCells, Value.cells]
  by_cases hjn : j = n
  · have hys : xs.take (i * 1) ++ vs ++ xs.drop (j * 1) = xs.take (i * 1) ++ vs := by rw [List.drop_of_length_le (by omega), List.append_nil]
    have owni : w.ownsRow 0 e' i0.size (.slice (some ⟨g, 0, none⟩) i c) i (xs.take (i * 1)) := by
      rw [hzs]; exact own_make hg (by rw [List.length_take]; omega) (by omega) hcm hcs (by rw [htA])
    obtain ⟨u', w1, e2, hr, hown, hfr, _, hblk⟩ := append_any (P := Tryz.prog) (w := w) (t := 25) (t2 := 25) (ty := 25) (e := 3) (e' := e') (d2 := .slice 3) (i := i0) (z := (.int .i64 0)) qnn qnn (fun k h => by cases h) hi hz0 (by rw [hzs]; rfl) (by omega) (by omega)
      (u := .slice (some ⟨g, 0, none⟩) i c) (x := .slice (some a) m vc) (n := i) (m := m) (xs := xs.take (i * 1)) (news := vs) rfl
      (fun w1 h => by
        rw [hzs]
        rcases h with rfl | rfl
        · exact run_firstCells_some w1 1 m a m vc vs hvl hv
        · exact run_firstCells_some w.drew 1 m a m vc vs hvl hv) (by rw [hvl, hzs]) h1v owni (by unfold bigLen; omega)
    have hfr' : Fr (fun b _ => b = g) w w1 := hfr.mono fun x y _ h => by simp [Value.ownBlock] at h; exact h.symm
    rw [hzs] at hown
    have hown0 := hown
    obtain ⟨_, ⟨_, h0⟩ | ⟨g1, cap1, cur1, rfl, _⟩⟩ := hown
    · omega
    have hblk' : ∀ b, (Value.slice (some ⟨g1, 0, none⟩) (i + m) cap1).ownBlock = some b → b = g ∨ w.heap.size ≤ b := fun b hb => (hblk b hb).imp (fun h => by simp [Value.ownBlock] at h; exact h.symm) id
    by_cases hcut : i + m < n
    · obtain ⟨cu, hcu, hcz⟩ := fr_at hfr' hg
      have hfit : (i + m) * 1 + (Builtin.zeroCells ((.int .i64 0) : Value).cells (n - (i + m))).toList.length ≤ cu.size := by rw [lz]; omega
      refine (qk1 g n c i j m vc cap1 a ⟨g1, 0, none⟩ w w1 _ hij hjn hnc (by omega) hcm' hcut (by omega) hr (fun ty kc => run_clear_rows w1 25 3 ty (.int .i64 0) qnn qn9 h1z g (i + m) (n - (i + m)) kc (by omega) cu e' hcu (by omega))).mono ?_
      rintro en w' ⟨rfl, rfl⟩
      refine ⟨_, rfl, ⟨e2, ?_⟩, hfr'.trans (fr_row hcu (spl_size (by omega))), hblk'⟩
      rw [hys, show i + m + (n - j) = i + m by omega]
      exact own_clear hown0 hcu (by omega) (by omega)
    · refine (qk3 g n c i j m vc cap1 a ⟨g1, 0, none⟩ w w1 hij hjn hnc (by omega) hcm' (by omega) (by omega) hr).mono ?_
      rintro en w' ⟨rfl, rfl⟩
      refine ⟨_, rfl, ⟨e2, ?_⟩, hfr', hblk'⟩
      rw [hys, show i + m + (n - j) = i + m by omega]
      exact hown0
  · have hj' : j < n := by omega
    obtain ⟨cs, hcsd⟩ : ∃ cs, cs = xs.drop (j * 1) := ⟨_, rfl⟩
    have hcl : cs.length = (n - j) * 1 := by rw [hcsd, List.length_drop]; omega
    have h1s : ∀ v ∈ cs, v.oneCell' = true := fun v hv => h1c v (by rw [hcsd] at hv; exact List.mem_of_mem_drop hv)
    have htd : (cur.toList.drop (j * 1)).take ((n - j) * 1) = cs := by rw [hcsd, ← htk, List.drop_take]; congr 1; omega
    have hys : (xs.take (i * 1) ++ vs ++ cs).length = (i + m + (n - j)) * 1 := by
      rw [List.length_append, List.length_append, List.length_take]; omega
    rw [← hcsd]
    have hmin : Nat.min m (i + m + (n - j) - i) = m := by simp only [Nat.min_def]; split <;> omega
    have hmin2 : Nat.min (n - j) (n - j) = n - j := Nat.min_self _
    by_cases hroom : i + m + (n - j) ≤ c
    · by_cases hgr : j < i + m
      · have hfa : (i + m) * 1 + cs.length ≤ cur.size := by omega
        have hfb : i * 1 + vs.length ≤ (spl cur ((i + m) * 1) cs).size := by rw [spl_size hfa]; omega
        obtain ⟨tB, kB, hsb, hkB⟩ := shape_of (by omega) hv
        refine (qlb g n c i j m vc a w (fun q => (w.drewN q).setRow g (spl cur ((i + m) * 1) cs)) (fun q => ((w.drewN q).setRow g (spl cur ((i + m) * 1) cs)).setRow g (spl (spl cur ((i + m) * 1) cs) (i * 1) vs)) hij hj' hnc (by omega) hcm' hgr (by omega) hroom ?_ ?_ ?_).mono ?_
        · intro q lb cb
          rw [run_callFunc_extern Tryz.func96 (by kernel_rfl) (by kernel_rfl) (by kernel_rfl) (e := Extern.SlicesOverlaps.overlaps #[25, 25] #[4]) (by kernel_rfl),
            Lib.run_overlaps_apart (w.drewN q) 25 4 3 qnn 1 qm7 ⟨g, (i + m), none⟩ a lb cb m vc (fun h => hva h.symm) e' tB cur.size kB (by simp [World.shape?, hg]) (by simpa [World.shape?] using hsb) hkB (by simp [World.frozen?, hg]) (by simp [World.frozen?, hg])]
          rfl
        · intro q ty dc sc
          have := run_copy_rows (P := Tryz.prog) (w.drewN q) 25 25 ty 3 1 g ((i + m) * 1) (n - j) dc ⟨g, j * 1, none⟩ (n - j) sc cur e' cs qnn qnd hg (by rw [hcl, hmin2]) (fun q' v hq => by rw [Addr.add_lit]; simpa [World.cell?, hg] using get_drop htd q' v hq) hfa h1s
          rw [hmin2] at this
          simpa using this
        · intro q ty dc
          have := run_copy_rows (P := Tryz.prog) ((w.drewN q).setRow g (spl cur ((i + m) * 1) cs)) 25 25 ty 3 1 g (i * 1) (i + m + (n - j) - i) dc a m vc (spl cur ((i + m) * 1) cs) e' vs qnn qnd (setRow_heap _ g cur _ e' _ hg) (by rw [hvl, hmin]) (fun q' v hq => by rw [cell_setRow hva]; exact hv q' v hq) hfb h1v
          rw [hmin] at this
          simpa using this
        · rintro en w' ⟨q, rfl, rfl⟩
          refine ⟨_, rfl, ⟨e', ?_⟩, ?_, fun b hb => .inl (by simp [Value.ownBlock] at hb; exact hb.symm)⟩
          · refine own_make (setRow_heap _ g _ _ e' _ (setRow_heap _ g cur _ e' _ hg)) hys hroom hcm (by rw [spl_size hfb, spl_size hfa]; exact hcs) ?_
            have d1 : (spl cur ((i + m) * 1) cs).toList.drop ((i + m) * 1) = cs ++ cur.toList.drop ((i + m) * 1 + cs.length) := by
              show List.drop _ (cur.toList.take ((i + m) * 1) ++ cs ++ cur.toList.drop ((i + m) * 1 + cs.length)) = _
              rw [List.append_assoc, List.drop_left' (by rw [List.length_take]; omega)]
            show List.take _ ((spl cur ((i + m) * 1) cs).toList.take (i * 1) ++ vs ++ (spl cur ((i + m) * 1) cs).toList.drop (i * 1 + vs.length)) = _
            rw [show i * 1 + vs.length = (i + m) * 1 by omega, d1, spl_take_lo (by omega) (by omega), htA, ← List.append_assoc]
            exact List.take_left' (by rw [← htA]; exact hys)
          · rw [setRow_setRow]
            exact (((qgv w q).mono fun _ _ _ h => h.elim).trans (fr_row (w := w.drewN q) hg (by rw [spl_size hfb, spl_size hfa])))
      · have hfa : i * 1 + vs.length ≤ cur.size := by omega
        have hfb : (i + m) * 1 + cs.length ≤ (spl cur (i * 1) vs).size := by rw [spl_size hfa]; omega
        have hfc : (i + m + (n - j)) * 1 + (Builtin.zeroCells ((.int .i64 0) : Value).cells (n - (i + m + (n - j)))).toList.length ≤ (spl (spl cur (i * 1) vs) ((i + m) * 1) cs).size := by rw [spl_size hfb, spl_size hfa, lz]; omega
        have htd1 : ((spl cur (i * 1) vs).toList.drop (j * 1)).take ((n - j) * 1) = cs := by rw [spl_drop_hi (by omega) hfa]; exact htd
        refine (qk7 g n c i j m vc a w (fun q => (w.drewN q).setRow g (spl cur (i * 1) vs)) (fun q => ((w.drewN q).setRow g (spl cur (i * 1) vs)).drew.setRow g (spl (spl cur (i * 1) vs) ((i + m) * 1) cs)) (fun q => (((w.drewN q).setRow g (spl cur (i * 1) vs)).drew.setRow g (spl (spl cur (i * 1) vs) ((i + m) * 1) cs)).setRow g (spl (spl (spl cur (i * 1) vs) ((i + m) * 1) cs) ((i + m + (n - j)) * 1) (Builtin.zeroCells ((.int .i64 0) : Value).cells (n - (i + m + (n - j)))).toList)) hij hj' hnc (by omega) hcm' (by omega) (by omega) ?_ ?_ ?_).mono ?_
        · intro q ty dc
          have := run_copy_rows (P := Tryz.prog) (w.drewN q) 25 25 ty 3 1 g (i * 1) (i + m + (n - j) - i) dc a m vc cur e' vs qnn qnd hg (by rw [hvl, hmin]) hv hfa h1v
          rw [hmin] at this
          simpa using this
        · intro q ty dc sc
          have hh : ((w.drewN q).setRow g (spl cur (i * 1) vs)).drew.heap[g]? = some (.cells (spl cur (i * 1) vs) e' (0, 0)) := setRow_heap _ g cur _ e' _ hg
          have := run_copy_rows (P := Tryz.prog) ((w.drewN q).setRow g (spl cur (i * 1) vs)).drew 25 25 ty 3 1 g ((i + m) * 1) (n - j) dc ⟨g, j * 1, none⟩ (n - j) sc _ e' cs qnn qnd hh (by rw [hcl, hmin2]) (fun q' v hq => cell_at hh (get_drop htd1 q' v hq)) hfb h1s
          rw [hmin2] at this
          simpa using this
        · intro q ty kc
          have := run_clear_rows (P := Tryz.prog) _ 25 3 ty (.int .i64 0) qnn qn9 h1z g ((i + m + (n - j)) * 1) (n - (i + m + (n - j))) kc (by omega) _ e' (setRow_heap ((w.drewN q).setRow g (spl cur (i * 1) vs)).drew g _ (spl (spl cur (i * 1) vs) ((i + m) * 1) cs) e' _ (setRow_heap (w.drewN q) g cur _ e' _ hg)) hfc
          simpa using this
        · rintro en w' ⟨q, rfl, rfl⟩
          refine ⟨_, rfl, ⟨e', ?_⟩, ?_, fun b hb => .inl (by simp [Value.ownBlock] at hb; exact hb.symm)⟩
          · refine own_make (setRow_heap _ g _ _ e' _ (setRow_heap _ g _ _ e' _ (setRow_heap (w.drewN q) g cur _ e' _ hg))) hys hroom hcm (by rw [spl_size hfc, spl_size hfb, spl_size hfa]; exact hcs) ?_
            rw [spl_take_lo (by omega) (by rw [spl_size hfb, spl_size hfa]; omega)]
            have e1 := spl_take hfb
            rw [show (i + m) * 1 + cs.length = (i + m + (n - j)) * 1 by omega] at e1
            rw [e1]
            have e2 := spl_take hfa
            rw [show i * 1 + vs.length = (i + m) * 1 by omega] at e2
            rw [e2, htA]
          · have f1 := fr_row (w := w.drewN q) hg (spl_size hfa)
            have g1 := setRow_heap (w.drewN q) g cur (spl cur (i * 1) vs) e' _ hg
            have f2 := fr_row (w := ((w.drewN q).setRow g (spl cur (i * 1) vs)).drew) g1 (spl_size hfb)
            have g2 := setRow_heap ((w.drewN q).setRow g (spl cur (i * 1) vs)).drew g _ (spl (spl cur (i * 1) vs) ((i + m) * 1) cs) e' _ g1
            have f3 := fr_row g2 (spl_size hfc)
            exact ((qgv w q).mono fun _ _ _ h => h.elim).trans (f1.trans (((fr_drew _).mono fun _ _ _ h => h.elim).trans (f2.trans f3)))
    · obtain ⟨ROW, hROW⟩ : ∃ ROW : Nat → Array Value, ROW = fun q => (xs.take (i * 1)).toArray ++ Builtin.zeroCells ((.int .i64 0) : Value).cells (m + (n - j)) ++ Builtin.zeroCells ((.int .i64 0) : Value).cells (grownCap (w.drewN q) (i + (m + (n - j))) c 3 - (i + (m + (n - j)))) := ⟨_, rfl⟩
      obtain ⟨G, hGd⟩ : ∃ G : Nat → Nat, G = fun q => grownCap (w.drewN q) (i + (m + (n - j))) c 3 := ⟨_, rfl⟩
      have hG : ∀ q, i + m + (n - j) ≤ G q := fun q => by have := grownCap_ge (w.drewN q) (i + (m + (n - j))) c 3; rw [hGd]; show i + m + (n - j) ≤ grownCap (w.drewN q) (i + (m + (n - j))) c 3; omega
      have hGm : ∀ q, G q ≤ maxLen := fun q => by rw [hGd]; exact grownCap_le_maxLen _ _ _ _ (by unfold maxLen; omega)
      have hrs : ∀ q, (ROW q).size = G q * 1 := fun q => by
        have := hG q
        rw [hGd] at this ⊢
        rw [hROW]
        simp only [Array.size_append, List.size_toArray, List.length_take]
        rw [← Array.length_toList (xs := Builtin.zeroCells _ _), lz, ← Array.length_toList (xs := Builtin.zeroCells _ _), lz]
        simp only at this
        omega
      have hrt : ∀ q, (ROW q).toList.take (i * 1) = xs.take (i * 1) := fun q => by
        rw [hROW]
        simp only [Array.toList_append, List.append_assoc]
        exact List.take_left' (by rw [List.length_take]; omega)
      have hap : ∀ q, (Builtin.append_ #[25, 3] 25 #[.slice (some ⟨g, 0, none⟩) i c, .int .i64 ((i : Int) + (m : Int) + ((n - j : Nat) : Int) - (i : Int))]).run Tryz.prog (w.drewN q) = .ok (.slice (some ⟨w.heap.size, 0, none⟩) (i + m + (n - j)) (G q)) ((w.drewN q).drew.alloc (.cells (ROW q) 3)) := fun q => by
        have hold : (Builtin.firstCells i0.size i (.slice (some ⟨g, 0, none⟩) i c)).run Tryz.prog (w.drewN q).drew = .ok (xs.take (i * 1)).toArray (w.drewN q).drew := by
          rw [hzs]
          exact run_firstCells_some _ 1 i ⟨g, 0, none⟩ i c _ (by rw [List.length_take]; omega) (fun q' v hq => by
            rw [Addr.add_lit]
            have := get_drop (cur := cur) (o := 0) (L := i * 1) (cs := xs.take (i * 1)) (by rw [List.drop_zero, htA]) q' v hq
            simpa [World.cell?, hg] using this)
        have h := Lib.run_append_grow_zeros (P := Tryz.prog) (w.drewN q) 25 3 25 3 i0 (.int .i64 0) .i64 .i64 qnn (by kernel_rfl) hi hz0 (some ⟨g, 0, none⟩) i c (xs.take (i * 1)) hold (m + (n - j)) (by omega) (by omega) (by omega) (by omega) (by rw [hzb]; omega) (by rw [hzb]; exact growslice_fits (by omega) (by omega))
        rw [show (i : Int) + (m : Int) + ((n - j : Nat) : Int) - (i : Int) = ((m + (n - j) : Nat) : Int) by omega, show i + m + (n - j) = i + (m + (n - j)) by omega, hGd, hROW]
        exact h
      have hfa : ∀ q, i * 1 + vs.length ≤ (ROW q).size := fun q => by rw [hrs q]; have := hG q; omega
      have hfb : ∀ q, (i + m) * 1 + cs.length ≤ (spl (ROW q) (i * 1) vs).size := fun q => by rw [spl_size (hfa q), hrs q]; have := hG q; omega
      have hnew : ∀ q, ((w.drewN q).drew.alloc (.cells (ROW q) 3)).heap[w.heap.size]? = some (.cells (ROW q) 3 (0, 0)) := fun q => heap_alloc_new (w.drewN q).drew _
      have hold : ∀ q b, b < w.heap.size → ((w.drewN q).drew.alloc (.cells (ROW q) 3)).heap[b]? = w.heap[b]? := fun q b hb => by
        show (w.heap.push _)[b]? = _
        rw [Array.getElem?_push, if_neg (by omega)]
      have hab : a.block < w.heap.size := block_lt_of_cell (hv 0 _ (List.getElem?_eq_getElem (show 0 < vs.length by omega)))
      refine (qk9 g n c i j m vc w.heap.size a w G (fun q => (w.drewN q).drew.alloc (.cells (ROW q) 3)) (fun q => ((w.drewN q).drew.alloc (.cells (ROW q) 3)).setRow w.heap.size (spl (ROW q) (i * 1) vs)) (fun q => (((w.drewN q).drew.alloc (.cells (ROW q) 3)).setRow w.heap.size (spl (ROW q) (i * 1) vs)).drew.setRow w.heap.size (spl (spl (ROW q) (i * 1) vs) ((i + m) * 1) cs)) hij hj' hnc (by omega) hcm' (by omega) (by omega) hG hap ?_ ?_).mono ?_
      · intro q ty dc
        have := run_copy_rows (P := Tryz.prog) ((w.drewN q).drew.alloc (.cells (ROW q) 3)) 25 25 ty 3 1 w.heap.size (i * 1) (i + m + (n - j) - i) dc a m vc (ROW q) 3 vs qnn qnd (hnew q) (by rw [hvl, hmin]) (fun q' v hq => by
          rw [← hv q' v hq]; simp only [World.cell?, addr_block]; rw [hold q a.block hab]) (hfa q) h1v
        rw [hmin] at this
        simpa using this
      · intro q ty dc sc
        have hh : (((w.drewN q).drew.alloc (.cells (ROW q) 3)).setRow w.heap.size (spl (ROW q) (i * 1) vs)).drew.heap[w.heap.size]? = some (.cells (spl (ROW q) (i * 1) vs) 3 (0, 0)) := setRow_heap _ _ _ _ 3 _ (hnew q)
        have hh2 : (((w.drewN q).drew.alloc (.cells (ROW q) 3)).setRow w.heap.size (spl (ROW q) (i * 1) vs)).drew.heap[g]? = some (.cells cur e' (0, 0)) := by
          show (((w.drewN q).drew.alloc (.cells (ROW q) 3)).setRow w.heap.size (spl (ROW q) (i * 1) vs)).heap[g]? = _
          rw [setRow_other _ w.heap.size g _ (by omega), hold q g hlt]; exact hg
        have := run_copy_rows (P := Tryz.prog) (((w.drewN q).drew.alloc (.cells (ROW q) 3)).setRow w.heap.size (spl (ROW q) (i * 1) vs)).drew 25 25 ty 3 1 w.heap.size ((i + m) * 1) (n - j) dc ⟨g, j * 1, none⟩ (n - j) sc _ 3 cs qnn qnd hh (by rw [hcl, hmin2]) (fun q' v hq => cell_at hh2 (get_drop htd q' v hq)) (hfb q) h1s
        rw [hmin2] at this
        simpa using this
      · rintro en w' ⟨q, rfl, rfl⟩
        refine ⟨_, rfl, ⟨3, ?_⟩, ?_, fun b hb => .inr (by simp [Value.ownBlock] at hb; omega)⟩
        · refine own_make (setRow_heap _ _ _ _ 3 _ (setRow_heap _ _ _ _ 3 _ (hnew q))) hys (hG q) (hGm q) (by rw [spl_size (hfb q), spl_size (hfa q)]; exact hrs q) ?_
          have e1 := spl_take (hfb q)
          rw [show (i + m) * 1 + cs.length = (i + m + (n - j)) * 1 by omega] at e1
          rw [e1]
          have e2 := spl_take (hfa q)
          rw [show i * 1 + vs.length = (i + m) * 1 by omega] at e2
          rw [e2, hrt q]
        · have f0 : Fr (fun b _ => b = g ∨ w.heap.size ≤ b) w ((w.drewN q).drew.alloc (.cells (ROW q) 3)) := ((qgv w q).mono fun _ _ _ h => h.elim).trans (((fr_drew _).mono fun _ _ _ h => h.elim).trans ((fr_alloc _ _).mono fun _ _ _ h => h.elim))
          have f1 := fr_new f0 (Nat.le_refl _) (hnew q) (spl_size (hfa q))
          have f2 := fr_new (f1.trans ((fr_drew _).mono fun _ _ _ h => h.elim)) (Nat.le_refl _) (setRow_heap _ _ _ _ 3 _ (hnew q)) (spl_size (hfb q))
          exact f2.mono fun x y hx h => h.elim id fun h => by omega

theorem qn8 : ∀ w, (zeroValue 54).run Tryz.prog w = .ok (.agg #[.int .i64 0, .int .i64 0, .int .i64 0]) w := fun w => by
  obtain ⟨i0, hi, h0, h1, h2⟩ := info_parts qg1
  simp [zeroValue, typeInfo, hi, h0]
set_option maxHeartbeats 1000000 in
set_option maxRecDepth 100000 in
theorem qk4 (w : World) (g n c i j m vc : Nat) (a : Addr) (xs vs : List Value) (e' : TypeId) (hij : i < j) (hj : j ≤ n) (hm : 1 ≤ m) (hne : i + m ≠ j) (hn : n ≤ 549755813888) (hmb : m ≤ 549755813888)
    (own : w.ownsRow 0 e' 3 (.slice (some ⟨g, 0, none⟩) n c) n xs) (hva : a.block ≠ g) (hvl : vs.length = m * 3) (hv : ∀ q v, vs[q]? = some v → w.cell? (a.add q) = some v)
    (h1c : ∀ v ∈ xs, v.oneCell' = true) (h1v : ∀ v ∈ vs, v.oneCell' = true) :
    Calls Tryz.prog 93 #[.slice (some ⟨g, 0, none⟩) n c, .int .i64 i, .int .i64 j, .slice (some a) m vc] w (RepPost 3 w g (i + m + (n - j)) (xs.take (i * 3) ++ vs ++ xs.drop (j * 3))) := by
  have own0 := own
  obtain ⟨hxl, hx | ⟨g', cap, cur, e1, _, hg, hnc, hcm, hcs, htk⟩⟩ := own
  · simp at hx
  simp only [Value.slice.injEq, Option.some.injEq, Addr.mk.injEq, and_true, true_and] at e1
  obtain ⟨rfl, rfl⟩ := e1
  have hcm' := hcm
  unfold maxLen at hcm'
  obtain ⟨i0, hi, hz0, hzs, hzb⟩ := info_parts qg1
  have hlt : g < w.heap.size := (Array.getElem?_eq_some_iff.1 hg).1
  have hcur : cur.toList.length = c * 3 := by rw [Array.length_toList]; exact hcs
  have htA : xs.take (i * 3) = cur.toList.take (i * 3) := by rw [← htk, take_take_le _ (by omega)]
  have h1z : ∀ n, ∀ v ∈ (Builtin.zeroCells ((.agg #[.int .i64 0, .int .i64 0, .int .i64 0]) : Value).cells n).toList, v.oneCell' = true := fun n => zeroCells_oneCell (by intro v hv; simp [Value.cells] at hv; rcases hv with rfl | rfl | rfl <;> rfl) n
  have lz : ∀ n, (Builtin.zeroCells ((.agg #[.int .i64 0, .int .i64 0, .int .i64 0]) : Value).cells n).toList.length = n * 3 := fun n => by simp [Builtin.zeroCells, Value.cells]
  by_cases hjn : j = n
  · have hys : xs.take (i * 3) ++ vs ++ xs.drop (j * 3) = xs.take (i * 3) ++ vs := by rw [List.drop_of_length_le (by omega), List.append_nil]
    have owni : w.ownsRow 0 e' i0.size (.slice (some ⟨g, 0, none⟩) i c) i (xs.take (i * 3)) := by
      rw [hzs]; exact own_make hg (by rw [List.length_take]; omega) (by omega) hcm hcs (by rw [htA])
    obtain ⟨u', w1, e2, hr, hown, hfr, _, hblk⟩ := append_any (P := Tryz.prog) (w := w) (t := 29) (t2 := 29) (ty := 29) (e := 54) (e' := e') (d2 := .slice 54) (i := i0) (z := (.agg #[.int .i64 0, .int .i64 0, .int .i64 0])) qnm qnm (fun k h => by cases h) hi hz0 (by rw [hzs]; rfl) (by omega) (by omega)
      (u := .slice (some ⟨g, 0, none⟩) i c) (x := .slice (some a) m vc) (n := i) (m := m) (xs := xs.take (i * 3)) (news := vs) rfl
      (fun w1 h => by
        rw [hzs]
        rcases h with rfl | rfl
        · exact run_firstCells_some w1 3 m a m vc vs hvl hv
        · exact run_firstCells_some w.drew 3 m a m vc vs hvl hv) (by rw [hvl, hzs]) h1v owni (by unfold bigLen; omega)
    have hfr' : Fr (fun b _ => b = g) w w1 := hfr.mono fun x y _ h => by simp [Value.ownBlock] at h; exact h.symm
    rw [hzs] at hown
    have hown0 := hown
    obtain ⟨_, ⟨_, h0⟩ | ⟨g1, cap1, cur1, rfl, _⟩⟩ := hown
    · omega
    have hblk' : ∀ b, (Value.slice (some ⟨g1, 0, none⟩) (i + m) cap1).ownBlock = some b → b = g ∨ w.heap.size ≤ b := fun b hb => (hblk b hb).imp (fun h => by simp [Value.ownBlock] at h; exact h.symm) id
    by_cases hcut : i + m < n
    · obtain ⟨cu, hcu, hcz⟩ := fr_at hfr' hg
      have hfit : (i + m) * 3 + (Builtin.zeroCells ((.agg #[.int .i64 0, .int .i64 0, .int .i64 0]) : Value).cells (n - (i + m))).toList.length ≤ cu.size := by rw [lz]; omega
      refine (qk0 g n c i j m vc cap1 a ⟨g1, 0, none⟩ w w1 _ hij hjn hnc (by omega) hcm' hcut (by omega) hr (fun ty kc => run_clear_rows w1 29 54 ty (.agg #[.int .i64 0, .int .i64 0, .int .i64 0]) qnm qn8 h1z g ((i + m) * 3) (n - (i + m)) kc (by omega) cu e' hcu (by omega))).mono ?_
      rintro en w' ⟨rfl, rfl⟩
      refine ⟨_, rfl, ⟨e2, ?_⟩, hfr'.trans (fr_row hcu (spl_size (by omega))), hblk'⟩
      rw [hys, show i + m + (n - j) = i + m by omega]
      exact own_clear hown0 hcu (by omega) (by omega)
    · refine (qk2 g n c i j m vc cap1 a ⟨g1, 0, none⟩ w w1 hij hjn hnc (by omega) hcm' (by omega) (by omega) hr).mono ?_
      rintro en w' ⟨rfl, rfl⟩
      refine ⟨_, rfl, ⟨e2, ?_⟩, hfr', hblk'⟩
      rw [hys, show i + m + (n - j) = i + m by omega]
      exact hown0
  · have hj' : j < n := by omega
    obtain ⟨cs, hcsd⟩ : ∃ cs, cs = xs.drop (j * 3) := ⟨_, rfl⟩
    have hcl : cs.length = (n - j) * 3 := by rw [hcsd, List.length_drop]; omega
    have h1s : ∀ v ∈ cs, v.oneCell' = true := fun v hv => h1c v (by rw [hcsd] at hv; exact List.mem_of_mem_drop hv)
    have htd : (cur.toList.drop (j * 3)).take ((n - j) * 3) = cs := by rw [hcsd, ← htk, List.drop_take]; congr 1; omega
    have hys : (xs.take (i * 3) ++ vs ++ cs).length = (i + m + (n - j)) * 3 := by
      rw [List.length_append, List.length_append, List.length_take]; omega
    rw [← hcsd]
    have hmin : Nat.min m (i + m + (n - j) - i) = m := by simp only [Nat.min_def]; split <;> omega
    have hmin2 : Nat.min (n - j) (n - j) = n - j := Nat.min_self _
    by_cases hroom : i + m + (n - j) ≤ c
    · by_cases hgr : j < i + m
      · have hfa : (i + m) * 3 + cs.length ≤ cur.size := by omega
        have hfb : i * 3 + vs.length ≤ (spl cur ((i + m) * 3) cs).size := by rw [spl_size hfa]; omega
        obtain ⟨tB, kB, hsb, hkB⟩ := shape_of (by omega) hv
        refine (qla g n c i j m vc a w (fun q => (w.drewN q).setRow g (spl cur ((i + m) * 3) cs)) (fun q => ((w.drewN q).setRow g (spl cur ((i + m) * 3) cs)).setRow g (spl (spl cur ((i + m) * 3) cs) (i * 3) vs)) hij hj' hnc (by omega) hcm' hgr (by omega) hroom ?_ ?_ ?_).mono ?_
        · intro q lb cb
          rw [run_callFunc_extern Tryz.func101 (by kernel_rfl) (by kernel_rfl) (by kernel_rfl) (e := Extern.SlicesOverlaps.overlaps #[29, 29] #[4]) (by kernel_rfl),
            Lib.run_overlaps_apart (w.drewN q) 29 4 54 qnm 3 qm6 ⟨g, ((i + m) * 3), none⟩ a lb cb m vc (fun h => hva h.symm) e' tB cur.size kB (by simp [World.shape?, hg]) (by simpa [World.shape?] using hsb) hkB (by simp [World.frozen?, hg]) (by simp [World.frozen?, hg])]
          rfl
        · intro q ty dc sc
          have := run_copy_rows (P := Tryz.prog) (w.drewN q) 29 29 ty 54 3 g ((i + m) * 3) (n - j) dc ⟨g, j * 3, none⟩ (n - j) sc cur e' cs qnm qnc hg (by rw [hcl, hmin2]) (fun q' v hq => by rw [Addr.add_lit]; simpa [World.cell?, hg] using get_drop htd q' v hq) hfa h1s
          rw [hmin2] at this
          simpa using this
        · intro q ty dc
          have := run_copy_rows (P := Tryz.prog) ((w.drewN q).setRow g (spl cur ((i + m) * 3) cs)) 29 29 ty 54 3 g (i * 3) (i + m + (n - j) - i) dc a m vc (spl cur ((i + m) * 3) cs) e' vs qnm qnc (setRow_heap _ g cur _ e' _ hg) (by rw [hvl, hmin]) (fun q' v hq => by rw [cell_setRow hva]; exact hv q' v hq) hfb h1v
          rw [hmin] at this
          simpa using this
        · rintro en w' ⟨q, rfl, rfl⟩
          refine ⟨_, rfl, ⟨e', ?_⟩, ?_, fun b hb => .inl (by simp [Value.ownBlock] at hb; exact hb.symm)⟩
          · refine own_make (setRow_heap _ g _ _ e' _ (setRow_heap _ g cur _ e' _ hg)) hys hroom hcm (by rw [spl_size hfb, spl_size hfa]; exact hcs) ?_
            have d1 : (spl cur ((i + m) * 3) cs).toList.drop ((i + m) * 3) = cs ++ cur.toList.drop ((i + m) * 3 + cs.length) := by
              show List.drop _ (cur.toList.take ((i + m) * 3) ++ cs ++ cur.toList.drop ((i + m) * 3 + cs.length)) = _
              rw [List.append_assoc, List.drop_left' (by rw [List.length_take]; omega)]
            show List.take _ ((spl cur ((i + m) * 3) cs).toList.take (i * 3) ++ vs ++ (spl cur ((i + m) * 3) cs).toList.drop (i * 3 + vs.length)) = _
            rw [show i * 3 + vs.length = (i + m) * 3 by omega, d1, spl_take_lo (by omega) (by omega), htA, ← List.append_assoc]
            exact List.take_left' (by rw [← htA]; exact hys)
          · rw [setRow_setRow]
            exact (((qgv w q).mono fun _ _ _ h => h.elim).trans (fr_row (w := w.drewN q) hg (by rw [spl_size hfb, spl_size hfa])))
      · have hfa : i * 3 + vs.length ≤ cur.size := by omega
        have hfb : (i + m) * 3 + cs.length ≤ (spl cur (i * 3) vs).size := by rw [spl_size hfa]; omega
        have hfc : (i + m + (n - j)) * 3 + (Builtin.zeroCells ((.agg #[.int .i64 0, .int .i64 0, .int .i64 0]) : Value).cells (n - (i + m + (n - j)))).toList.length ≤ (spl (spl cur (i * 3) vs) ((i + m) * 3) cs).size := by rw [spl_size hfb, spl_size hfa, lz]; omega
        have htd1 : ((spl cur (i * 3) vs).toList.drop (j * 3)).take ((n - j) * 3) = cs := by rw [spl_drop_hi (by omega) hfa]; exact htd
        refine (qk6 g n c i j m vc a w (fun q => (w.drewN q).setRow g (spl cur (i * 3) vs)) (fun q => ((w.drewN q).setRow g (spl cur (i * 3) vs)).drew.setRow g (spl (spl cur (i * 3) vs) ((i + m) * 3) cs)) (fun q => (((w.drewN q).setRow g (spl cur (i * 3) vs)).drew.setRow g (spl (spl cur (i * 3) vs) ((i + m) * 3) cs)).setRow g (spl (spl (spl cur (i * 3) vs) ((i + m) * 3) cs) ((i + m + (n - j)) * 3) (Builtin.zeroCells ((.agg #[.int .i64 0, .int .i64 0, .int .i64 0]) : Value).cells (n - (i + m + (n - j)))).toList)) hij hj' hnc (by omega) hcm' (by omega) (by omega) ?_ ?_ ?_).mono ?_
        · intro q ty dc
          have := run_copy_rows (P := Tryz.prog) (w.drewN q) 29 29 ty 54 3 g (i * 3) (i + m + (n - j) - i) dc a m vc cur e' vs qnm qnc hg (by rw [hvl, hmin]) hv hfa h1v
          rw [hmin] at this
          simpa using this
        · intro q ty dc sc
          have hh : ((w.drewN q).setRow g (spl cur (i * 3) vs)).drew.heap[g]? = some (.cells (spl cur (i * 3) vs) e' (0, 0)) := setRow_heap _ g cur _ e' _ hg
          have := run_copy_rows (P := Tryz.prog) ((w.drewN q).setRow g (spl cur (i * 3) vs)).drew 29 29 ty 54 3 g ((i + m) * 3) (n - j) dc ⟨g, j * 3, none⟩ (n - j) sc _ e' cs qnm qnc hh (by rw [hcl, hmin2]) (fun q' v hq => cell_at hh (get_drop htd1 q' v hq)) hfb h1s
          rw [hmin2] at this
          simpa using this
        · intro q ty kc
          have := run_clear_rows (P := Tryz.prog) _ 29 54 ty (.agg #[.int .i64 0, .int .i64 0, .int .i64 0]) qnm qn8 h1z g ((i + m + (n - j)) * 3) (n - (i + m + (n - j))) kc (by omega) _ e' (setRow_heap ((w.drewN q).setRow g (spl cur (i * 3) vs)).drew g _ (spl (spl cur (i * 3) vs) ((i + m) * 3) cs) e' _ (setRow_heap (w.drewN q) g cur _ e' _ hg)) hfc
          simpa using this
        · rintro en w' ⟨q, rfl, rfl⟩
          refine ⟨_, rfl, ⟨e', ?_⟩, ?_, fun b hb => .inl (by simp [Value.ownBlock] at hb; exact hb.symm)⟩
          · refine own_make (setRow_heap _ g _ _ e' _ (setRow_heap _ g _ _ e' _ (setRow_heap (w.drewN q) g cur _ e' _ hg))) hys hroom hcm (by rw [spl_size hfc, spl_size hfb, spl_size hfa]; exact hcs) ?_
            rw [spl_take_lo (by omega) (by rw [spl_size hfb, spl_size hfa]; omega)]
            have e1 := spl_take hfb
            rw [show (i + m) * 3 + cs.length = (i + m + (n - j)) * 3 by omega] at e1
            rw [e1]
            have e2 := spl_take hfa
            rw [show i * 3 + vs.length = (i + m) * 3 by omega] at e2
            rw [e2, htA]
          · have f1 := fr_row (w := w.drewN q) hg (spl_size hfa)
            have g1 := setRow_heap (w.drewN q) g cur (spl cur (i * 3) vs) e' _ hg
            have f2 := fr_row (w := ((w.drewN q).setRow g (spl cur (i * 3) vs)).drew) g1 (spl_size hfb)
            have g2 := setRow_heap ((w.drewN q).setRow g (spl cur (i * 3) vs)).drew g _ (spl (spl cur (i * 3) vs) ((i + m) * 3) cs) e' _ g1
            have f3 := fr_row g2 (spl_size hfc)
            exact ((qgv w q).mono fun _ _ _ h => h.elim).trans (f1.trans (((fr_drew _).mono fun _ _ _ h => h.elim).trans (f2.trans f3)))
    · obtain ⟨ROW, hROW⟩ : ∃ ROW : Nat → Array Value, ROW = fun q => (xs.take (i * 3)).toArray ++ Builtin.zeroCells ((.agg #[.int .i64 0, .int .i64 0, .int .i64 0]) : Value).cells (m + (n - j)) ++ Builtin.zeroCells ((.agg #[.int .i64 0, .int .i64 0, .int .i64 0]) : Value).cells (grownCap (w.drewN q) (i + (m + (n - j))) c 54 - (i + (m + (n - j)))) := ⟨_, rfl⟩
      obtain ⟨G, hGd⟩ : ∃ G : Nat → Nat, G = fun q => grownCap (w.drewN q) (i + (m + (n - j))) c 54 := ⟨_, rfl⟩
      have hG : ∀ q, i + m + (n - j) ≤ G q := fun q => by have := grownCap_ge (w.drewN q) (i + (m + (n - j))) c 54; rw [hGd]; show i + m + (n - j) ≤ grownCap (w.drewN q) (i + (m + (n - j))) c 54; omega
      have hGm : ∀ q, G q ≤ maxLen := fun q => by rw [hGd]; exact grownCap_le_maxLen _ _ _ _ (by unfold maxLen; omega)
      have hrs : ∀ q, (ROW q).size = G q * 3 := fun q => by
        have := hG q
        rw [hGd] at this ⊢
        rw [hROW]
        simp only [Array.size_append, List.size_toArray, List.length_take]
        rw [← Array.length_toList (xs := Builtin.zeroCells _ _), lz, ← Array.length_toList (xs := Builtin.zeroCells _ _), lz]
        simp only at this
        omega
      have hrt : ∀ q, (ROW q).toList.take (i * 3) = xs.take (i * 3) := fun q => by
        rw [hROW]
        simp only [Array.toList_append, List.append_assoc]
        exact List.take_left' (by rw [List.length_take]; omega)
      have hap : ∀ q, (Builtin.append_ #[29, 3] 29 #[.slice (some ⟨g, 0, none⟩) i c, .int .i64 ((i : Int) + (m : Int) + ((n - j : Nat) : Int) - (i : Int))]).run Tryz.prog (w.drewN q) = .ok (.slice (some ⟨w.heap.size, 0, none⟩) (i + m + (n - j)) (G q)) ((w.drewN q).drew.alloc (.cells (ROW q) 54)) := fun q => by
        have hold : (Builtin.firstCells i0.size i (.slice (some ⟨g, 0, none⟩) i c)).run Tryz.prog (w.drewN q).drew = .ok (xs.take (i * 3)).toArray (w.drewN q).drew := by
          rw [hzs]
          exact run_firstCells_some _ 3 i ⟨g, 0, none⟩ i c _ (by rw [List.length_take]; omega) (fun q' v hq => by
            rw [Addr.add_lit]
            have := get_drop (cur := cur) (o := 0) (L := i * 3) (cs := xs.take (i * 3)) (by rw [List.drop_zero, htA]) q' v hq
            simpa [World.cell?, hg] using this)
        have h := Lib.run_append_grow_zeros (P := Tryz.prog) (w.drewN q) 29 3 29 54 i0 (.agg #[.int .i64 0, .int .i64 0, .int .i64 0]) .i64 .i64 qnm (by kernel_rfl) hi hz0 (some ⟨g, 0, none⟩) i c (xs.take (i * 3)) hold (m + (n - j)) (by omega) (by omega) (by omega) (by omega) (by rw [hzb]; omega) (by rw [hzb]; exact growslice_fits (by omega) (by omega))
        rw [show (i : Int) + (m : Int) + ((n - j : Nat) : Int) - (i : Int) = ((m + (n - j) : Nat) : Int) by omega, show i + m + (n - j) = i + (m + (n - j)) by omega, hGd, hROW]
        exact h
      have hfa : ∀ q, i * 3 + vs.length ≤ (ROW q).size := fun q => by rw [hrs q]; have := hG q; omega
      have hfb : ∀ q, (i + m) * 3 + cs.length ≤ (spl (ROW q) (i * 3) vs).size := fun q => by rw [spl_size (hfa q), hrs q]; have := hG q; omega
      have hnew : ∀ q, ((w.drewN q).drew.alloc (.cells (ROW q) 54)).heap[w.heap.size]? = some (.cells (ROW q) 54 (0, 0)) := fun q => heap_alloc_new (w.drewN q).drew _
      have hold : ∀ q b, b < w.heap.size → ((w.drewN q).drew.alloc (.cells (ROW q) 54)).heap[b]? = w.heap[b]? := fun q b hb => by
        show (w.heap.push _)[b]? = _
        rw [Array.getElem?_push, if_neg (by omega)]
      have hab : a.block < w.heap.size := block_lt_of_cell (hv 0 _ (List.getElem?_eq_getElem (show 0 < vs.length by omega)))
      refine (qk8 g n c i j m vc w.heap.size a w G (fun q => (w.drewN q).drew.alloc (.cells (ROW q) 54)) (fun q => ((w.drewN q).drew.alloc (.cells (ROW q) 54)).setRow w.heap.size (spl (ROW q) (i * 3) vs)) (fun q => (((w.drewN q).drew.alloc (.cells (ROW q) 54)).setRow w.heap.size (spl (ROW q) (i * 3) vs)).drew.setRow w.heap.size (spl (spl (ROW q) (i * 3) vs) ((i + m) * 3) cs)) hij hj' hnc (by omega) hcm' (by omega) (by omega) hG hap ?_ ?_).mono ?_
      · intro q ty dc
        have := run_copy_rows (P := Tryz.prog) ((w.drewN q).drew.alloc (.cells (ROW q) 54)) 29 29 ty 54 3 w.heap.size (i * 3) (i + m + (n - j) - i) dc a m vc (ROW q) 54 vs qnm qnc (hnew q) (by rw [hvl, hmin]) (fun q' v hq => by
          rw [← hv q' v hq]; simp only [World.cell?, addr_block]; rw [hold q a.block hab]) (hfa q) h1v
        rw [hmin] at this
        simpa using this
      · intro q ty dc sc
        have hh : (((w.drewN q).drew.alloc (.cells (ROW q) 54)).setRow w.heap.size (spl (ROW q) (i * 3) vs)).drew.heap[w.heap.size]? = some (.cells (spl (ROW q) (i * 3) vs) 54 (0, 0)) := setRow_heap _ _ _ _ 54 _ (hnew q)
        have hh2 : (((w.drewN q).drew.alloc (.cells (ROW q) 54)).setRow w.heap.size (spl (ROW q) (i * 3) vs)).drew.heap[g]? = some (.cells cur e' (0, 0)) := by
          show (((w.drewN q).drew.alloc (.cells (ROW q) 54)).setRow w.heap.size (spl (ROW q) (i * 3) vs)).heap[g]? = _
          rw [setRow_other _ w.heap.size g _ (by omega), hold q g hlt]; exact hg
        have := run_copy_rows (P := Tryz.prog) (((w.drewN q).drew.alloc (.cells (ROW q) 54)).setRow w.heap.size (spl (ROW q) (i * 3) vs)).drew 29 29 ty 54 3 w.heap.size ((i + m) * 3) (n - j) dc ⟨g, j * 3, none⟩ (n - j) sc _ 54 cs qnm qnc hh (by rw [hcl, hmin2]) (fun q' v hq => cell_at hh2 (get_drop htd q' v hq)) (hfb q) h1s
        rw [hmin2] at this
        simpa using this
      · rintro en w' ⟨q, rfl, rfl⟩
        refine ⟨_, rfl, ⟨54, ?_⟩, ?_, fun b hb => .inr (by simp [Value.ownBlock] at hb; omega)⟩
        · refine own_make (setRow_heap _ _ _ _ 54 _ (setRow_heap _ _ _ _ 54 _ (hnew q))) hys (hG q) (hGm q) (by rw [spl_size (hfb q), spl_size (hfa q)]; exact hrs q) ?_
          have e1 := spl_take (hfb q)
          rw [show (i + m) * 3 + cs.length = (i + m + (n - j)) * 3 by omega] at e1
          rw [e1]
          have e2 := spl_take (hfa q)
          rw [show i * 3 + vs.length = (i + m) * 3 by omega] at e2
          rw [e2, hrt q]
        · have f0 : Fr (fun b _ => b = g ∨ w.heap.size ≤ b) w ((w.drewN q).drew.alloc (.cells (ROW q) 54)) := ((qgv w q).mono fun _ _ _ h => h.elim).trans (((fr_drew _).mono fun _ _ _ h => h.elim).trans ((fr_alloc _ _).mono fun _ _ _ h => h.elim))
          have f1 := fr_new f0 (Nat.le_refl _) (hnew q) (spl_size (hfa q))
          have f2 := fr_new (f1.trans ((fr_drew _).mono fun _ _ _ h => h.elim)) (Nat.le_refl _) (setRow_heap _ _ _ _ 54 _ (hnew q)) (spl_size (hfb q))
          exact f2.mono fun x y hx h => h.elim id fun h => by omega
end Go.Proofs.YtfgccfajhedgdaaGreat
end
section
namespace Go.Proofs.YtfgccfajhedgdaaGreat
open Go.RowKit Go.Lib Go.Ev Go.Shelf

theorem qb1 (k : Nat) (z z' : Bool) (l v : List Int) (i j : Int) (hi : 0 ≤ i) (hij : i < j) (hj : j ≤ (l.length : Int)) (hv : 1 ≤ v.length) (hne : ¬ i + (v.length : Int) = j) (hl : l.length ≤ 1048576) (hvl : v.length ≤ 1048576) :
    go (k + 1) slices_Replace_int_int [.arr true z (.ints .i64 l), .int .i64 i, .int .i64 j, .arr false z' (.ints .i64 v)] = some [.arr true false (.ints .i64 (l.take i.toNat ++ v ++ l.drop j.toNat))] := by
  have e : go (k + 1) slices_Replace_int_int [.arr true z (.ints .i64 l), .int .i64 i, .int .i64 j, .arr false z' (.ints .i64 v)] = repGo (.ints .i64 l) (.ints .i64 v) i j := Eq.trans rfl rfl
  have hl' : (Arr.len (Arr.ints .i64 l)) = l.length := rfl
  have hv' : (Arr.len (Arr.ints .i64 v)) = v.length := rfl
  have hr : repA (.ints .i64 l) (.ints .i64 v) i.toNat j.toNat = some (.ints .i64 (l.take i.toNat ++ v ++ l.drop j.toNat)) := by
    have hd : List.take (l.length - j.toNat) (List.drop j.toNat l) = List.drop j.toNat l := List.take_of_length_le (by rw [List.length_drop]; omega)
    simp [repA, Arr.sub, Arr.app, Arr.len, hd]
  rw [e]
  unfold repGo
  rw [hl', hv', hr]
  simp [hi, hij, hj, hv, hne, show l.length ≤ 549755813888 by omega, show v.length ≤ 549755813888 by omega]
theorem qkg (x : List Int) : okTs Tryz.prog [25] [.arr true false (.ints .i64 x)] = true := by kernel_rfl
set_option maxRecDepth 100000 in
theorem qhe (ds rs : List D) (h : repI ds = some rs) : Contract Tryz.prog 88 [] ds rs := by
  unfold repI at h
  split at h
  · rename_i z l i j z' v
    unfold repGo at h
    cases hc : (decide (0 ≤ i) && decide (i < j) && decide (j ≤ ((Arr.len (Arr.ints .i64 l)) : Int)) && decide (1 ≤ (Arr.len (Arr.ints .i64 v))) && !decide (i + ((Arr.len (Arr.ints .i64 v)) : Int) = j) && decide ((Arr.len (Arr.ints .i64 l)) ≤ 549755813888) && decide ((Arr.len (Arr.ints .i64 v)) ≤ 549755813888))
    · rw [hc] at h; cases h
    rw [hc, qds, Option.map_eq_some_iff] at h
    obtain ⟨c, hr, rfl⟩ := h
    simp only [Bool.and_eq_true, decide_eq_true_eq, Bool.not_eq_true', decide_eq_false_iff_not] at hc
    obtain ⟨⟨⟨⟨⟨⟨h1, h2⟩, h3⟩, h4⟩, h5⟩, h6⟩, h7⟩ := hc
    have hck : okTs Tryz.prog [25] [.arr true false c] = true := by
      have : c = .ints .i64 (l.take i.toNat ++ v ++ l.drop j.toNat) := by
        have hd : List.take (l.length - j.toNat) (List.drop j.toNat l) = List.drop j.toNat l := List.take_of_length_le (by rw [List.length_drop]; omega)
        simp [repA, Arr.sub, Arr.app, Arr.len, hd] at hr
        rw [← hr]; simp
      rw [this]; exact qkg _
    refine rep_contract (fn := Tryz.f88) (S := 25) Tryz.func88 (by kernel_rfl) (by kernel_rfl) hck h1 h2 h3 h4 rfl hr (fun w g cap vc x e' own hx hv => ?_)
    exact qk5 w g _ cap _ _ _ vc x _ _ e' (by omega) (by omega) h4 (by omega) h6 h7 own hx (Arr.cells_length _) hv (Arr.cells_one _) (Arr.cells_one _)
  · cases h

theorem qb0 (k : Nat) (z z' : Bool) (l v : List (Int × Int × Int)) (i j : Int) (hi : 0 ≤ i) (hij : i < j) (hj : j ≤ (l.length : Int)) (hv : 1 ≤ v.length) (hne : ¬ i + (v.length : Int) = j) (hl : l.length ≤ 1048576) (hvl : v.length ≤ 1048576) :
    go (k + 1) slices_Replace_impl_Id_impl_Id [.arr true z (.r3 l), .int .i64 i, .int .i64 j, .arr false z' (.r3 v)] = some [.arr true false (.r3 (l.take i.toNat ++ v ++ l.drop j.toNat))] := by
  have e : go (k + 1) slices_Replace_impl_Id_impl_Id [.arr true z (.r3 l), .int .i64 i, .int .i64 j, .arr false z' (.r3 v)] = repGo (.r3 l) (.r3 v) i j := Eq.trans rfl rfl
  have hl' : (Arr.len (Arr.r3 l)) = l.length := rfl
  have hv' : (Arr.len (Arr.r3 v)) = v.length := rfl
  have hr : repA (.r3 l) (.r3 v) i.toNat j.toNat = some (.r3 (l.take i.toNat ++ v ++ l.drop j.toNat)) := by
    have hd : List.take (l.length - j.toNat) (List.drop j.toNat l) = List.drop j.toNat l := List.take_of_length_le (by rw [List.length_drop]; omega)
    simp [repA, Arr.sub, Arr.app, Arr.len, hd]
  rw [e]
  unfold repGo
  rw [hl', hv', hr]
  simp [hi, hij, hj, hv, hne, show l.length ≤ 549755813888 by omega, show v.length ≤ 549755813888 by omega]
theorem qkf (x : List (Int × Int × Int)) : okTs Tryz.prog [29] [.arr true false (.r3 x)] = true := by kernel_rfl
set_option maxRecDepth 100000 in
theorem qhd (ds rs : List D) (h : rep3 ds = some rs) : Contract Tryz.prog 93 [] ds rs := by
  unfold rep3 at h
  split at h
  · rename_i z l i j z' v
    unfold repGo at h
    cases hc : (decide (0 ≤ i) && decide (i < j) && decide (j ≤ ((Arr.len (Arr.r3 l)) : Int)) && decide (1 ≤ (Arr.len (Arr.r3 v))) && !decide (i + ((Arr.len (Arr.r3 v)) : Int) = j) && decide ((Arr.len (Arr.r3 l)) ≤ 549755813888) && decide ((Arr.len (Arr.r3 v)) ≤ 549755813888))
    · rw [hc] at h; cases h
    rw [hc, qds, Option.map_eq_some_iff] at h
    obtain ⟨c, hr, rfl⟩ := h
    simp only [Bool.and_eq_true, decide_eq_true_eq, Bool.not_eq_true', decide_eq_false_iff_not] at hc
    obtain ⟨⟨⟨⟨⟨⟨h1, h2⟩, h3⟩, h4⟩, h5⟩, h6⟩, h7⟩ := hc
    have hck : okTs Tryz.prog [29] [.arr true false c] = true := by
      have : c = .r3 (l.take i.toNat ++ v ++ l.drop j.toNat) := by
        have hd : List.take (l.length - j.toNat) (List.drop j.toNat l) = List.drop j.toNat l := List.take_of_length_le (by rw [List.length_drop]; omega)
        simp [repA, Arr.sub, Arr.app, Arr.len, hd] at hr
        rw [← hr]; simp
      rw [this]; exact qkf _
    refine rep_contract (fn := Tryz.f93) (S := 29) Tryz.func93 (by kernel_rfl) (by kernel_rfl) hck h1 h2 h3 h4 rfl hr (fun w g cap vc x e' own hx hv => ?_)
    exact qk4 w g _ cap _ _ _ vc x _ _ e' (by omega) (by omega) h4 (by omega) h6 h7 own hx (Arr.cells_length _) hv (Arr.cells_one _) (Arr.cells_one _)
  · cases h

theorem withExt : ∀ f g, An.ext f = some g → ∀ ds rs, g ds = some rs → Contract Tryz.prog f (An.mode f) ds rs := by
  intro f g h ds rs hd
  by_cases h1 : f = 88
  · subst h1
    have e : An.ext 88 = some repI := rfl
    rw [e] at h; cases h
    exact qhe ds rs hd
  by_cases h2 : f = 93
  · subst h2
    have e : An.ext 93 = some rep3 := rfl
    rw [e] at h; cases h
    exact qhd ds rs hd
  have n1 : Nat.beq f 88 = false := by cases b : Nat.beq f 88 with | false => rfl | true => exact absurd (Nat.eq_of_beq_eq_true b) h1
  have n2 : Nat.beq f 93 = false := by cases b : Nat.beq f 93 with | false => rfl | true => exact absurd (Nat.eq_of_beq_eq_true b) h2
  have e : An.ext f = none := by show cond (Nat.beq f 88) (some repI) (cond (Nat.beq f 93) (some rep3) none) = none; rw [n1, n2]; rfl
  rw [e] at h; cases h
end Go.Proofs.YtfgccfajhedgdaaGreat
end
section
namespace Go.Proofs.YtfgccfajhedgdaaGreat
open Go.Ev
theorem qf6 (k : Nat) (a : Int) : go (k + 1) spec_SplitEven [(.int .i64 (a))] =
 cond (decide (a < (0 : Int)))
 (some [(.int .i64 (0 : Int)), (.int .i64 (0 : Int))])
 (some [(.int .i64 (IntKind.wrap .i64 (a - IntKind.wrap .i64 (Int.tdiv a (2 : Int))))), (.int .i64 (IntKind.wrap .i64 (Int.tdiv a (2 : Int))))]) := by kernel_rfl
theorem qei (k : Nat) (a : Int) : go (k + 1) impl_SplitEven [(.int .i64 (a))] =
 cond (decide (a < (0 : Int)))
 (some [(.int .i64 (0 : Int)), (.int .i64 (0 : Int))])
 (some [(.int .i64 (IntKind.wrap .i64 (a - IntKind.wrap .i64 (Int.tdiv a (2 : Int))))), (.int .i64 (IntKind.wrap .i64 (Int.tdiv a (2 : Int))))]) := by kernel_rfl
theorem qeu (k : Nat) (a0 a1 a2 b : Int) : go (k + 1) impl_child [(.agg [(.int .i64 (a0)), (.int .i64 (a1)), (.int .i64 (a2))]), (.int .i64 (b))] =
 some [(.agg [(.int .i64 (a0)), (.int .i64 (IntKind.wrap .i64 (a1 + (1 : Int)))), (.int .i64 (IntKind.wrap .i64 (IntKind.wrap .i64 ((2 : Int) * a2) + b)))])] := by kernel_rfl
theorem qec (k : Nat) (a0 : Int) (a1z : Bool) (a1 : List (Int × Int × Int)) (b : Int) : go (k + 1) impl_Mesh_refine [(.ptr true [(.int .i64 (a0)), (.arr true (a1z) (.r3 (a1)))]), (.int .i64 (b))] =
 cond (decide ((0 : Int) ≤ b) && decide (b < nI (List.length a1)))
 ((go k impl_child [(.agg [(.int .i64 (Prod.fst (List.getD a1 (Int.toNat b) zz3))), (.int .i64 (Prod.fst (Prod.snd (List.getD a1 (Int.toNat b) zz3)))), (.int .i64 (Prod.snd (Prod.snd (List.getD a1 (Int.toNat b) zz3))))]), (.int .i64 (0 : Int))]).bind fun r0 =>
 (go k impl_child [(.agg [(.int .i64 (Prod.fst (List.getD a1 (Int.toNat b) zz3))), (.int .i64 (Prod.fst (Prod.snd (List.getD a1 (Int.toNat b) zz3)))), (.int .i64 (Prod.snd (Prod.snd (List.getD a1 (Int.toNat b) zz3))))]), (.int .i64 ((1 : Int)))]).bind fun r1 =>
 (go k slices_Replace_impl_Id_impl_Id [(.arr true (a1z) (.r3 (a1))), (.int .i64 (b)), (.int .i64 (IntKind.wrap .i64 (b + (1 : Int)))), (.arr false (false) (.r3 ([(D.toInt (D.cell 0 (nth r0 0)), D.toInt (D.cell 1 (nth r0 0)), D.toInt (D.cell 2 (nth r0 0))), (D.toInt (D.cell 0 (nth r1 0)), D.toInt (D.cell 1 (nth r1 0)), D.toInt (D.cell 2 (nth r1 0)))])))]).bind fun r2 =>
 some [(.ptr true [(.int .i64 (a0)), (.arr true (D.nil (nth r2 0)) (.r3 (D.r3 (nth r2 0))))])])
 (none) := by kernel_rfl
theorem qeb (k : Nat) (a0 : Int) (a1z : Bool) (a1 : List (Int × Int × Int)) (b : Int) : go (k + 1) impl_Mesh_coarsen [(.ptr true [(.int .i64 (a0)), (.arr true (a1z) (.r3 (a1)))]), (.int .i64 (b))] =
 cond (decide ((0 : Int) ≤ b) && decide (b < nI (List.length a1)))
 ((go k impl_ParentOf [(.agg [(.int .i64 (Prod.fst (List.getD a1 (Int.toNat b) zz3))), (.int .i64 (Prod.fst (Prod.snd (List.getD a1 (Int.toNat b) zz3)))), (.int .i64 (Prod.snd (Prod.snd (List.getD a1 (Int.toNat b) zz3))))])]).bind fun r0 =>
 (go k slices_Replace_impl_Id_impl_Id [(.arr true (a1z) (.r3 (a1))), (.int .i64 (b)), (.int .i64 (IntKind.wrap .i64 (b + (2 : Int)))), (.arr false (false) (.r3 ([(D.toInt (D.cell 0 (nth r0 0)), D.toInt (D.cell 1 (nth r0 0)), D.toInt (D.cell 2 (nth r0 0)))])))]).bind fun r1 =>
 some [(.ptr true [(.int .i64 (a0)), (.arr true (D.nil (nth r1 0)) (.r3 (D.r3 (nth r1 0))))])])
 (none) := by kernel_rfl
theorem qeo (k : Nat) (a0 : Int) (a1z : Bool) (a1 : List (Int × Int × Int)) (a2z : Bool) (a2 : List Int) (a3z : Bool) (a3 : List Int) (a4z : Bool) (a4 : List Int) (b : Int) : go (k + 1) impl_State_refine [(.ptr true [(.int .i64 (a0)), (.arr true (a1z) (.r3 (a1))), (.arr true (a2z) (.ints .i64 (a2))), (.arr true (a3z) (.ints .i64 (a3))), (.arr true (a4z) (.ints .i64 (a4)))]), (.int .i64 (b))] =
 cond (decide ((0 : Int) ≤ b) && decide (b < nI (List.length a2)))
 ((go k impl_SplitEven [(.int .i64 (List.getD a2 (Int.toNat b) (0 : Int)))]).bind fun r0 =>
 cond (decide ((0 : Int) ≤ b) && decide (b < nI (List.length a3)))
 (cond (decide ((0 : Int) ≤ b) && decide (b < nI (List.length a2)))
 ((go k impl_ShareOut [(.int .i64 (List.getD a3 (Int.toNat b) (0 : Int))), (.int .i64 (D.toInt (nth r0 0))), (.int .i64 (List.getD a2 (Int.toNat b) (0 : Int)))]).bind fun r1 =>
 (go k impl_Mesh_refine [(.ptr true [(.int .i64 (a0)), (.arr true (a1z) (.r3 (a1)))]), (.int .i64 (b))]).bind fun r2 =>
 (go k slices_Replace_int_int [(.arr true (a2z) (.ints .i64 (a2))), (.int .i64 (b)), (.int .i64 (IntKind.wrap .i64 (b + (1 : Int)))), (.arr false (false) (.ints .i64 ([D.toInt (nth r0 0), D.toInt (nth r0 1)])))]).bind fun r3 =>
 cond (decide ((0 : Int) ≤ b) && decide (b < nI (List.length a3)))
 ((go k slices_Replace_int_int [(.arr true (a3z) (.ints .i64 (a3))), (.int .i64 (b)), (.int .i64 (IntKind.wrap .i64 (b + (1 : Int)))), (.arr false (false) (.ints .i64 ([D.toInt (nth r1 0), IntKind.wrap .i64 (List.getD a3 (Int.toNat b) (0 : Int) - D.toInt (nth r1 0))])))]).bind fun r4 =>
 some [(.ptr true [(.int .i64 (D.toInt (D.cell 0 (nth r2 0)))), (.arr true (D.nil (D.cell 1 (nth r2 0))) (.r3 (D.r3 (D.cell 1 (nth r2 0))))), (.arr true (D.nil (nth r3 0)) (.ints .i64 (D.ints (nth r3 0)))), (.arr true (D.nil (nth r4 0)) (.ints .i64 (D.ints (nth r4 0)))), (.arr true (a4z) (.ints .i64 (a4)))])])
 (none))
 (none))
 (none))
 (none) := by kernel_rfl
theorem qel (k : Nat) (a0 : Int) (a1z : Bool) (a1 : List (Int × Int × Int)) (a2z : Bool) (a2 : List Int) (a3z : Bool) (a3 : List Int) (a4z : Bool) (a4 : List Int) (b : Int) : go (k + 1) impl_State_coarsen [(.ptr true [(.int .i64 (a0)), (.arr true (a1z) (.r3 (a1))), (.arr true (a2z) (.ints .i64 (a2))), (.arr true (a3z) (.ints .i64 (a3))), (.arr true (a4z) (.ints .i64 (a4)))]), (.int .i64 (b))] =
 (go k impl_Mesh_coarsen [(.ptr true [(.int .i64 (a0)), (.arr true (a1z) (.r3 (a1)))]), (.int .i64 (b))]).bind fun r0 =>
 cond (decide ((0 : Int) ≤ b) && decide (b < nI (List.length a2)))
 (cond (decide ((0 : Int) ≤ IntKind.wrap .i64 (b + (1 : Int))) && decide (IntKind.wrap .i64 (b + (1 : Int)) < nI (List.length a2)))
 ((go k slices_Replace_int_int [(.arr true (a2z) (.ints .i64 (a2))), (.int .i64 (b)), (.int .i64 (IntKind.wrap .i64 (b + (2 : Int)))), (.arr false (false) (.ints .i64 ([IntKind.wrap .i64 (List.getD a2 (Int.toNat b) (0 : Int) + List.getD a2 (Int.toNat (IntKind.wrap .i64 (b + (1 : Int)))) (0 : Int))])))]).bind fun r1 =>
 cond (decide ((0 : Int) ≤ b) && decide (b < nI (List.length a3)))
 (cond (decide ((0 : Int) ≤ IntKind.wrap .i64 (b + (1 : Int))) && decide (IntKind.wrap .i64 (b + (1 : Int)) < nI (List.length a3)))
 ((go k slices_Replace_int_int [(.arr true (a3z) (.ints .i64 (a3))), (.int .i64 (b)), (.int .i64 (IntKind.wrap .i64 (b + (2 : Int)))), (.arr false (false) (.ints .i64 ([IntKind.wrap .i64 (List.getD a3 (Int.toNat b) (0 : Int) + List.getD a3 (Int.toNat (IntKind.wrap .i64 (b + (1 : Int)))) (0 : Int))])))]).bind fun r2 =>
 some [(.ptr true [(.int .i64 (D.toInt (D.cell 0 (nth r0 0)))), (.arr true (D.nil (D.cell 1 (nth r0 0))) (.r3 (D.r3 (D.cell 1 (nth r0 0))))), (.arr true (D.nil (nth r1 0)) (.ints .i64 (D.ints (nth r1 0)))), (.arr true (D.nil (nth r2 0)) (.ints .i64 (D.ints (nth r2 0)))), (.arr true (a4z) (.ints .i64 (a4)))])])
 (none))
 (none))
 (none))
 (none) := by kernel_rfl
theorem qgk (k : Nat) (a0 : Int) (a1z : Bool) (a1 : List (Int × Int × Int)) (a2z : Bool) (a2 : List Int) (a3z : Bool) (a3 : List Int) (a4z : Bool) (a4 : List Int) (b : Int) : go (k + 1) spec_l08Split [(.agg [(.int .i64 (a0)), (.arr false (a1z) (.r3 (a1))), (.arr false (a2z) (.ints .i64 (a2))), (.arr false (a3z) (.ints .i64 (a3))), (.arr false (a4z) (.ints .i64 (a4)))]), (.int .i64 (b))] =
 cond (decide ((0 : Int) ≤ b) && decide (b < nI (List.length a2)))
 ((go k spec_SplitEven [(.int .i64 (List.getD a2 (Int.toNat b) (0 : Int)))]).bind fun r0 =>
 cond (decide ((0 : Int) ≤ b) && decide (b < nI (List.length a3)))
 (cond (decide ((0 : Int) ≤ b) && decide (b < nI (List.length a2)))
 ((go k spec_ShareOut [(.int .i64 (List.getD a3 (Int.toNat b) (0 : Int))), (.int .i64 (D.toInt (nth r0 0))), (.int .i64 (List.getD a2 (Int.toNat b) (0 : Int)))]).bind fun r1 =>
 cond (decide ((0 : Int) ≤ (0 : Int)) && decide ((0 : Int) ≤ b) && decide (b ≤ nI (List.length a2)))
 (cond (decide (List.length ([] ++ List.take (Int.toNat b - Int.toNat (0 : Int)) (List.drop (0 + Int.toNat (0 : Int)) a2)) ≤ bigLen))
 (cond (decide (List.length ([] ++ List.take (Int.toNat b - Int.toNat (0 : Int)) (List.drop (0 + Int.toNat (0 : Int)) a2) ++ [D.toInt (nth r0 0), D.toInt (nth r0 1)]) ≤ bigLen))
 (cond (decide ((0 : Int) ≤ (0 : Int)) && decide ((0 : Int) ≤ b) && decide (b ≤ nI (List.length a3)))
 (cond (decide (List.length ([] ++ List.take (Int.toNat b - Int.toNat (0 : Int)) (List.drop (0 + Int.toNat (0 : Int)) a3)) ≤ bigLen))
 (cond (decide ((0 : Int) ≤ b) && decide (b < nI (List.length a3)))
 (cond (decide (List.length ([] ++ List.take (Int.toNat b - Int.toNat (0 : Int)) (List.drop (0 + Int.toNat (0 : Int)) a3) ++ [D.toInt (nth r1 0), IntKind.wrap .i64 (List.getD a3 (Int.toNat b) (0 : Int) - D.toInt (nth r1 0))]) ≤ bigLen))
 ((go k spec_l05Split [(.agg [(.int .i64 (a0)), (.arr false (a1z) (.r3 (a1)))]), (.int .i64 (b))]).bind fun r2 =>
 cond (decide ((0 : Int) ≤ IntKind.wrap .i64 (b + (1 : Int))) && decide (IntKind.wrap .i64 (b + (1 : Int)) ≤ nI (List.length a2)) && decide (nI (List.length a2) ≤ nI (List.length a2)))
 (cond (decide (List.length ([] ++ List.take (Int.toNat b - Int.toNat (0 : Int)) (List.drop (0 + Int.toNat (0 : Int)) a2) ++ [D.toInt (nth r0 0), D.toInt (nth r0 1)] ++ List.take (Int.toNat (nI (List.length a2)) - Int.toNat (IntKind.wrap .i64 (b + (1 : Int)))) (List.drop (0 + Int.toNat (IntKind.wrap .i64 (b + (1 : Int)))) a2)) ≤ bigLen))
 (cond (decide ((0 : Int) ≤ IntKind.wrap .i64 (b + (1 : Int))) && decide (IntKind.wrap .i64 (b + (1 : Int)) ≤ nI (List.length a3)) && decide (nI (List.length a3) ≤ nI (List.length a3)))
 (cond (decide (List.length ([] ++ List.take (Int.toNat b - Int.toNat (0 : Int)) (List.drop (0 + Int.toNat (0 : Int)) a3) ++ [D.toInt (nth r1 0), IntKind.wrap .i64 (List.getD a3 (Int.toNat b) (0 : Int) - D.toInt (nth r1 0))] ++ List.take (Int.toNat (nI (List.length a3)) - Int.toNat (IntKind.wrap .i64 (b + (1 : Int)))) (List.drop (0 + Int.toNat (IntKind.wrap .i64 (b + (1 : Int)))) a3)) ≤ bigLen))
 (cond (decide (List.length ([] ++ a4) ≤ bigLen))
 (some [(.agg [(.int .i64 (D.toInt (D.cell 0 (nth r2 0)))), (.arr true (D.nil (D.cell 1 (nth r2 0))) (.r3 (D.r3 (D.cell 1 (nth r2 0))))), (.arr true (false && decide (List.length ([] ++ List.take (Int.toNat b - Int.toNat (0 : Int)) (List.drop (0 + Int.toNat (0 : Int)) a2)) = 0) && decide (List.length ([] ++ List.take (Int.toNat b - Int.toNat (0 : Int)) (List.drop (0 + Int.toNat (0 : Int)) a2) ++ [D.toInt (nth r0 0), D.toInt (nth r0 1)]) = 0) && decide (List.length ([] ++ List.take (Int.toNat b - Int.toNat (0 : Int)) (List.drop (0 + Int.toNat (0 : Int)) a2) ++ [D.toInt (nth r0 0), D.toInt (nth r0 1)] ++ List.take (Int.toNat (nI (List.length a2)) - Int.toNat (IntKind.wrap .i64 (b + (1 : Int)))) (List.drop (0 + Int.toNat (IntKind.wrap .i64 (b + (1 : Int)))) a2)) = 0)) (.ints .i64 ([] ++ List.take (Int.toNat b - Int.toNat (0 : Int)) (List.drop (0 + Int.toNat (0 : Int)) a2) ++ [D.toInt (nth r0 0), D.toInt (nth r0 1)] ++ List.take (Int.toNat (nI (List.length a2)) - Int.toNat (IntKind.wrap .i64 (b + (1 : Int)))) (List.drop (0 + Int.toNat (IntKind.wrap .i64 (b + (1 : Int)))) a2)))), (.arr true (false && decide (List.length ([] ++ List.take (Int.toNat b - Int.toNat (0 : Int)) (List.drop (0 + Int.toNat (0 : Int)) a3)) = 0) && decide (List.length ([] ++ List.take (Int.toNat b - Int.toNat (0 : Int)) (List.drop (0 + Int.toNat (0 : Int)) a3) ++ [D.toInt (nth r1 0), IntKind.wrap .i64 (List.getD a3 (Int.toNat b) (0 : Int) - D.toInt (nth r1 0))]) = 0) && decide (List.length ([] ++ List.take (Int.toNat b - Int.toNat (0 : Int)) (List.drop (0 + Int.toNat (0 : Int)) a3) ++ [D.toInt (nth r1 0), IntKind.wrap .i64 (List.getD a3 (Int.toNat b) (0 : Int) - D.toInt (nth r1 0))] ++ List.take (Int.toNat (nI (List.length a3)) - Int.toNat (IntKind.wrap .i64 (b + (1 : Int)))) (List.drop (0 + Int.toNat (IntKind.wrap .i64 (b + (1 : Int)))) a3)) = 0)) (.ints .i64 ([] ++ List.take (Int.toNat b - Int.toNat (0 : Int)) (List.drop (0 + Int.toNat (0 : Int)) a3) ++ [D.toInt (nth r1 0), IntKind.wrap .i64 (List.getD a3 (Int.toNat b) (0 : Int) - D.toInt (nth r1 0))] ++ List.take (Int.toNat (nI (List.length a3)) - Int.toNat (IntKind.wrap .i64 (b + (1 : Int)))) (List.drop (0 + Int.toNat (IntKind.wrap .i64 (b + (1 : Int)))) a3)))), (.arr true (false && decide (List.length ([] ++ a4) = 0)) (.ints .i64 ([] ++ a4)))])])
 (none))
 (none))
 (none))
 (none))
 (none))
 (none))
 (none))
 (none))
 (none))
 (none))
 (none))
 (none))
 (none))
 (none))
 (none) := by kernel_rfl
theorem qgj (k : Nat) (a0 : Int) (a1z : Bool) (a1 : List (Int × Int × Int)) (a2z : Bool) (a2 : List Int) (a3z : Bool) (a3 : List Int) (a4z : Bool) (a4 : List Int) (b : Int) : go (k + 1) spec_l08Merge [(.agg [(.int .i64 (a0)), (.arr false (a1z) (.r3 (a1))), (.arr false (a2z) (.ints .i64 (a2))), (.arr false (a3z) (.ints .i64 (a3))), (.arr false (a4z) (.ints .i64 (a4)))]), (.int .i64 (b))] =
 cond (decide ((0 : Int) ≤ (0 : Int)) && decide ((0 : Int) ≤ b) && decide (b ≤ nI (List.length a2)))
 (cond (decide (List.length ([] ++ List.take (Int.toNat b - Int.toNat (0 : Int)) (List.drop (0 + Int.toNat (0 : Int)) a2)) ≤ bigLen))
 (cond (decide ((0 : Int) ≤ b) && decide (b < nI (List.length a2)))
 (cond (decide ((0 : Int) ≤ IntKind.wrap .i64 (b + (1 : Int))) && decide (IntKind.wrap .i64 (b + (1 : Int)) < nI (List.length a2)))
 (cond (decide (List.length ([] ++ List.take (Int.toNat b - Int.toNat (0 : Int)) (List.drop (0 + Int.toNat (0 : Int)) a2) ++ [IntKind.wrap .i64 (List.getD a2 (Int.toNat b) (0 : Int) + List.getD a2 (Int.toNat (IntKind.wrap .i64 (b + (1 : Int)))) (0 : Int))]) ≤ bigLen))
 (cond (decide ((0 : Int) ≤ (0 : Int)) && decide ((0 : Int) ≤ b) && decide (b ≤ nI (List.length a3)))
 (cond (decide (List.length ([] ++ List.take (Int.toNat b - Int.toNat (0 : Int)) (List.drop (0 + Int.toNat (0 : Int)) a3)) ≤ bigLen))
 (cond (decide ((0 : Int) ≤ b) && decide (b < nI (List.length a3)))
 (cond (decide ((0 : Int) ≤ IntKind.wrap .i64 (b + (1 : Int))) && decide (IntKind.wrap .i64 (b + (1 : Int)) < nI (List.length a3)))
 (cond (decide (List.length ([] ++ List.take (Int.toNat b - Int.toNat (0 : Int)) (List.drop (0 + Int.toNat (0 : Int)) a3) ++ [IntKind.wrap .i64 (List.getD a3 (Int.toNat b) (0 : Int) + List.getD a3 (Int.toNat (IntKind.wrap .i64 (b + (1 : Int)))) (0 : Int))]) ≤ bigLen))
 ((go k spec_l06Merge [(.agg [(.int .i64 (a0)), (.arr false (a1z) (.r3 (a1)))]), (.int .i64 (b))]).bind fun r0 =>
 cond (decide ((0 : Int) ≤ IntKind.wrap .i64 (b + (2 : Int))) && decide (IntKind.wrap .i64 (b + (2 : Int)) ≤ nI (List.length a2)) && decide (nI (List.length a2) ≤ nI (List.length a2)))
 (cond (decide (List.length ([] ++ List.take (Int.toNat b - Int.toNat (0 : Int)) (List.drop (0 + Int.toNat (0 : Int)) a2) ++ [IntKind.wrap .i64 (List.getD a2 (Int.toNat b) (0 : Int) + List.getD a2 (Int.toNat (IntKind.wrap .i64 (b + (1 : Int)))) (0 : Int))] ++ List.take (Int.toNat (nI (List.length a2)) - Int.toNat (IntKind.wrap .i64 (b + (2 : Int)))) (List.drop (0 + Int.toNat (IntKind.wrap .i64 (b + (2 : Int)))) a2)) ≤ bigLen))
 (cond (decide ((0 : Int) ≤ IntKind.wrap .i64 (b + (2 : Int))) && decide (IntKind.wrap .i64 (b + (2 : Int)) ≤ nI (List.length a3)) && decide (nI (List.length a3) ≤ nI (List.length a3)))
 (cond (decide (List.length ([] ++ List.take (Int.toNat b - Int.toNat (0 : Int)) (List.drop (0 + Int.toNat (0 : Int)) a3) ++ [IntKind.wrap .i64 (List.getD a3 (Int.toNat b) (0 : Int) + List.getD a3 (Int.toNat (IntKind.wrap .i64 (b + (1 : Int)))) (0 : Int))] ++ List.take (Int.toNat (nI (List.length a3)) - Int.toNat (IntKind.wrap .i64 (b + (2 : Int)))) (List.drop (0 + Int.toNat (IntKind.wrap .i64 (b + (2 : Int)))) a3)) ≤ bigLen))
 (cond (decide (List.length ([] ++ a4) ≤ bigLen))
 (some [(.agg [(.int .i64 (D.toInt (D.cell 0 (nth r0 0)))), (.arr true (D.nil (D.cell 1 (nth r0 0))) (.r3 (D.r3 (D.cell 1 (nth r0 0))))), (.arr true (false && decide (List.length ([] ++ List.take (Int.toNat b - Int.toNat (0 : Int)) (List.drop (0 + Int.toNat (0 : Int)) a2)) = 0) && decide (List.length ([] ++ List.take (Int.toNat b - Int.toNat (0 : Int)) (List.drop (0 + Int.toNat (0 : Int)) a2) ++ [IntKind.wrap .i64 (List.getD a2 (Int.toNat b) (0 : Int) + List.getD a2 (Int.toNat (IntKind.wrap .i64 (b + (1 : Int)))) (0 : Int))]) = 0) && decide (List.length ([] ++ List.take (Int.toNat b - Int.toNat (0 : Int)) (List.drop (0 + Int.toNat (0 : Int)) a2) ++ [IntKind.wrap .i64 (List.getD a2 (Int.toNat b) (0 : Int) + List.getD a2 (Int.toNat (IntKind.wrap .i64 (b + (1 : Int)))) (0 : Int))] ++ List.take (Int.toNat (nI (List.length a2)) - Int.toNat (IntKind.wrap .i64 (b + (2 : Int)))) (List.drop (0 + Int.toNat (IntKind.wrap .i64 (b + (2 : Int)))) a2)) = 0)) (.ints .i64 ([] ++ List.take (Int.toNat b - Int.toNat (0 : Int)) (List.drop (0 + Int.toNat (0 : Int)) a2) ++ [IntKind.wrap .i64 (List.getD a2 (Int.toNat b) (0 : Int) + List.getD a2 (Int.toNat (IntKind.wrap .i64 (b + (1 : Int)))) (0 : Int))] ++ List.take (Int.toNat (nI (List.length a2)) - Int.toNat (IntKind.wrap .i64 (b + (2 : Int)))) (List.drop (0 + Int.toNat (IntKind.wrap .i64 (b + (2 : Int)))) a2)))), (.arr true (false && decide (List.length ([] ++ List.take (Int.toNat b - Int.toNat (0 : Int)) (List.drop (0 + Int.toNat (0 : Int)) a3)) = 0) && decide (List.length ([] ++ List.take (Int.toNat b - Int.toNat (0 : Int)) (List.drop (0 + Int.toNat (0 : Int)) a3) ++ [IntKind.wrap .i64 (List.getD a3 (Int.toNat b) (0 : Int) + List.getD a3 (Int.toNat (IntKind.wrap .i64 (b + (1 : Int)))) (0 : Int))]) = 0) && decide (List.length ([] ++ List.take (Int.toNat b - Int.toNat (0 : Int)) (List.drop (0 + Int.toNat (0 : Int)) a3) ++ [IntKind.wrap .i64 (List.getD a3 (Int.toNat b) (0 : Int) + List.getD a3 (Int.toNat (IntKind.wrap .i64 (b + (1 : Int)))) (0 : Int))] ++ List.take (Int.toNat (nI (List.length a3)) - Int.toNat (IntKind.wrap .i64 (b + (2 : Int)))) (List.drop (0 + Int.toNat (IntKind.wrap .i64 (b + (2 : Int)))) a3)) = 0)) (.ints .i64 ([] ++ List.take (Int.toNat b - Int.toNat (0 : Int)) (List.drop (0 + Int.toNat (0 : Int)) a3) ++ [IntKind.wrap .i64 (List.getD a3 (Int.toNat b) (0 : Int) + List.getD a3 (Int.toNat (IntKind.wrap .i64 (b + (1 : Int)))) (0 : Int))] ++ List.take (Int.toNat (nI (List.length a3)) - Int.toNat (IntKind.wrap .i64 (b + (2 : Int)))) (List.drop (0 + Int.toNat (IntKind.wrap .i64 (b + (2 : Int)))) a3)))), (.arr true (false && decide (List.length ([] ++ a4) = 0)) (.ints .i64 ([] ++ a4)))])])
 (none))
 (none))
 (none))
 (none))
 (none))
 (none))
 (none))
 (none))
 (none))
 (none))
 (none))
 (none))
 (none))
 (none))
 (none) := by kernel_rfl
theorem qgg (k : Nat) (a0 : Int) (a1z : Bool) (a1 : List (Int × Int × Int)) (b : Int) : go (k + 1) spec_l06Merge [(.agg [(.int .i64 (a0)), (.arr false (a1z) (.r3 (a1)))]), (.int .i64 (b))] =
 cond (decide ((0 : Int) ≤ b) && decide (b < nI (List.length a1)))
 ((go k spec_ParentOf [(.agg [(.int .i64 (Prod.fst (List.getD a1 (Int.toNat b) zz3))), (.int .i64 (Prod.fst (Prod.snd (List.getD a1 (Int.toNat b) zz3)))), (.int .i64 (Prod.snd (Prod.snd (List.getD a1 (Int.toNat b) zz3))))])]).bind fun r0 =>
 cond (decide ((0 : Int) ≤ (0 : Int)) && decide ((0 : Int) ≤ b) && decide (b ≤ nI (List.length a1)))
 (cond (decide (List.length ([] ++ List.take (Int.toNat b - Int.toNat (0 : Int)) (List.drop (0 + Int.toNat (0 : Int)) a1)) ≤ bigLen))
 (cond (decide (List.length ([] ++ List.take (Int.toNat b - Int.toNat (0 : Int)) (List.drop (0 + Int.toNat (0 : Int)) a1) ++ [(D.toInt (D.cell 0 (nth r0 0)), D.toInt (D.cell 1 (nth r0 0)), D.toInt (D.cell 2 (nth r0 0)))]) ≤ bigLen))
 (cond (decide ((0 : Int) ≤ IntKind.wrap .i64 (b + (2 : Int))) && decide (IntKind.wrap .i64 (b + (2 : Int)) ≤ nI (List.length a1)) && decide (nI (List.length a1) ≤ nI (List.length a1)))
 (cond (decide (List.length ([] ++ List.take (Int.toNat b - Int.toNat (0 : Int)) (List.drop (0 + Int.toNat (0 : Int)) a1) ++ [(D.toInt (D.cell 0 (nth r0 0)), D.toInt (D.cell 1 (nth r0 0)), D.toInt (D.cell 2 (nth r0 0)))] ++ List.take (Int.toNat (nI (List.length a1)) - Int.toNat (IntKind.wrap .i64 (b + (2 : Int)))) (List.drop (0 + Int.toNat (IntKind.wrap .i64 (b + (2 : Int)))) a1)) ≤ bigLen))
 (some [(.agg [(.int .i64 (a0)), (.arr true (false && decide (List.length ([] ++ List.take (Int.toNat b - Int.toNat (0 : Int)) (List.drop (0 + Int.toNat (0 : Int)) a1)) = 0) && decide (List.length ([] ++ List.take (Int.toNat b - Int.toNat (0 : Int)) (List.drop (0 + Int.toNat (0 : Int)) a1) ++ [(D.toInt (D.cell 0 (nth r0 0)), D.toInt (D.cell 1 (nth r0 0)), D.toInt (D.cell 2 (nth r0 0)))]) = 0) && decide (List.length ([] ++ List.take (Int.toNat b - Int.toNat (0 : Int)) (List.drop (0 + Int.toNat (0 : Int)) a1) ++ [(D.toInt (D.cell 0 (nth r0 0)), D.toInt (D.cell 1 (nth r0 0)), D.toInt (D.cell 2 (nth r0 0)))] ++ List.take (Int.toNat (nI (List.length a1)) - Int.toNat (IntKind.wrap .i64 (b + (2 : Int)))) (List.drop (0 + Int.toNat (IntKind.wrap .i64 (b + (2 : Int)))) a1)) = 0)) (.r3 ([] ++ List.take (Int.toNat b - Int.toNat (0 : Int)) (List.drop (0 + Int.toNat (0 : Int)) a1) ++ [(D.toInt (D.cell 0 (nth r0 0)), D.toInt (D.cell 1 (nth r0 0)), D.toInt (D.cell 2 (nth r0 0)))] ++ List.take (Int.toNat (nI (List.length a1)) - Int.toNat (IntKind.wrap .i64 (b + (2 : Int)))) (List.drop (0 + Int.toNat (IntKind.wrap .i64 (b + (2 : Int)))) a1))))])])
 (none))
 (none))
 (none))
 (none))
 (none))
 (none) := by kernel_rfl
theorem qf3 (k : Nat) (a0 a1 a2 : Int) : go (k + 1) spec_ParentOf [(.agg [(.int .i64 (a0)), (.int .i64 (a1)), (.int .i64 (a2))])] =
 (go k spec_IdOk [(.agg [(.int .i64 (a0)), (.int .i64 (a1)), (.int .i64 (a2))])]).bind fun r0 =>
 cond (!bit (nth r0 0))
 (some [(.agg [(.int .i64 (0 : Int)), (.int .i64 (0 : Int)), (.int .i64 (0 : Int))]), (.bool (false))])
 (cond (decide (a1 = (0 : Int)))
 (some [(.agg [(.int .i64 (0 : Int)), (.int .i64 (0 : Int)), (.int .i64 (0 : Int))]), (.bool (false))])
 (some [(.agg [(.int .i64 (a0)), (.int .i64 (IntKind.wrap .i64 (a1 - (1 : Int)))), (.int .i64 (IntKind.wrap .i64 (Int.tdiv a2 (2 : Int))))]), (.bool (true))])) := by kernel_rfl
theorem qee (k : Nat) (a0 a1 a2 : Int) : go (k + 1) impl_ParentOf [(.agg [(.int .i64 (a0)), (.int .i64 (a1)), (.int .i64 (a2))])] =
 (go k impl_IdOk [(.agg [(.int .i64 (a0)), (.int .i64 (a1)), (.int .i64 (a2))])]).bind fun r0 =>
 cond (!bit (nth r0 0))
 (some [(.agg [(.int .i64 (0 : Int)), (.int .i64 (0 : Int)), (.int .i64 (0 : Int))]), (.bool (false))])
 (cond (decide (a1 = (0 : Int)))
 (some [(.agg [(.int .i64 (0 : Int)), (.int .i64 (0 : Int)), (.int .i64 (0 : Int))]), (.bool (false))])
 (some [(.agg [(.int .i64 (a0)), (.int .i64 (IntKind.wrap .i64 (a1 - (1 : Int)))), (.int .i64 (IntKind.wrap .i64 (Int.tdiv a2 (2 : Int))))]), (.bool (true))])) := by kernel_rfl

end Go.Proofs.YtfgccfajhedgdaaGreat
end
section
namespace Go.Proofs.YtfgccfajhedgdaaGreat
open Go.Ev
def ql6 (x0 : Int) (z1 : Bool) (l2 : List (Int × Int × Int)) (x3 x4 x5 x6 : Int) : St := ⟨fill 21 [(2, (.ptr 1 (0) (0))), (3, (.ptr 2 (0) (0))), (5, (.int .i64 (x0)))], [], [(.arr false (z1) (.r3 (l2))), (.box true [(.int .i64 (x3)), (.sl 0 none)]), (.box true [(.int .i64 (x4)), (.int .i64 (x5)), (.int .i64 (x6))])]⟩
theorem qf0 (k : Nat) (a0 : Int) (a1z : Bool) (a1 : List (Int × Int × Int)) (b0 b1 b2 : Int) : go (k + 1) spec_LeafOf [(.agg [(.int .i64 (a0)), (.arr false (a1z) (.r3 (a1)))]), (.agg [(.int .i64 (b0)), (.int .i64 (b1)), (.int .i64 (b2))])] =
 lp k spec_LeafOf [] [] 2 k (ql6 (0 : Int) a1z a1 a0 b0 b1 b2) := by kernel_rfl
theorem qhz (k n : Nat) (fu : List (Nat × Nat)) (x0 : Int) (z1 : Bool) (l2 : List (Int × Int × Int)) (x3 x4 x5 x6 : Int) : lp k spec_LeafOf [] fu 2 (n + 1) (ql6 x0 z1 l2 x3 x4 x5 x6) =
 cond (decide (x0 < nI (List.length l2)))
 (cond (decide ((0 : Int) ≤ x0) && decide (x0 < nI (List.length l2)))
 (cond (decide (Prod.fst (List.getD l2 (Int.toNat x0) zz3) = x4) && (decide (Prod.fst (Prod.snd (List.getD l2 (Int.toNat x0) zz3)) = x5) && (decide (Prod.snd (Prod.snd (List.getD l2 (Int.toNat x0) zz3)) = x6) && true)))
 (some [(.int .i64 (x0))])
 (lp k spec_LeafOf [] fu 2 n (ql6 (IntKind.wrap .i64 (x0 + (1 : Int))) z1 l2 x3 x4 x5 x6)))
 (none))
 (some [(.int .i64 ((-1 : Int)))]) := by kernel_rfl

end Go.Proofs.YtfgccfajhedgdaaGreat
end
section
namespace Go.Proofs.YtfgccfajhedgdaaGreat
open Go.Ev
abbrev S3 := List Cell × List Int × List Int
structure StU (r : Int) (s : S3) (b : List Int) : Prop where
  mesh : qj1 r 0 s.1 = true
  ml : s.2.1.length = s.1.length
  tl : s.2.2.length = s.1.length
  bl : (b.length : Int) = r
  mt : qju s.2.1 s.2.2 = true
  bed : qae b = true
  sum : isum s.2.1 ≤ 10000000
theorem StF.toU {r : Int} {l : List Cell} {m t b : List Int} (F : StF r l m t b) : StU r (l, m, t) b := ⟨F.mesh, F.ml, F.tl, F.bl, F.mt, F.bed, F.sum⟩
theorem StU.toF {r : Int} {s : S3} {b : List Int} (U : StU r s b) (h : unb s.1 < 0) : StF r s.1 s.2.1 s.2.2 b := ⟨U.mesh, h, U.ml, U.tl, U.bl, U.mt, U.bed, U.sum⟩
theorem StU.len {r : Int} {s : S3} {b : List Int} (U : StU r s b) : 1 ≤ s.1.length ∧ s.1.length ≤ 128 := qj6 U.mesh
theorem StU.rr {r : Int} {s : S3} {b : List Int} (U : StU r s b) : 1 ≤ r ∧ r ≤ 8 := ⟨(qj5 _ _ _ U.mesh).1, (qj5 _ _ _ U.mesh).2.1⟩
theorem StU.at {r : Int} {s : S3} {b : List Int} (U : StU r s b) (i : Nat) : 0 ≤ s.2.1.getD i 0 ∧ s.2.1.getD i 0 ≤ 10000000 ∧ 0 ≤ s.2.2.getD i 0 ∧ s.2.2.getD i 0 ≤ 1000 * s.2.1.getD i 0 := qjv _ _ (by rw [U.ml, U.tl]) U.mt i
theorem StU.id {r : Int} {s : S3} {b : List Int} (U : StU r s b) {i : Nat} (h : i < s.1.length) : idOk (s.1.getD i zz3).1 (s.1.getD i zz3).2.1 (s.1.getD i zz3).2.2 = true := ((qj5 _ _ _ U.mesh).2.2.2.1 _ h).2.2
theorem qiq : ∀ (n : Nat) (m t : List Int), qju m t = true → qju (m.take n) (t.take n) = true
  | 0, m, t, h => by simp [qju]
  | n + 1, [], t, h => by simp [qju]
  | n + 1, x :: m, [], h => by simp [qju]
  | n + 1, x :: m, y :: t, h => by
    simp only [List.take_succ_cons, qju, Bool.and_eq_true] at h ⊢
    exact ⟨h.1, h.2.1, qiq n m t h.2.2⟩
theorem qip : ∀ (n : Nat) (m t : List Int), qju m t = true → qju (m.drop n) (t.drop n) = true
  | 0, m, t, h => by simpa using h
  | n + 1, [], t, h => by simp [qju]
  | n + 1, x :: m, [], h => by cases h' : List.drop n m <;> simp [qju, h']
  | n + 1, x :: m, y :: t, h => by
    simp only [List.drop_succ_cons, qju, Bool.and_eq_true] at h ⊢
    exact qip n m t h.2.2
theorem qin : ∀ (m t m' t' : List Int), m.length = t.length → qju m t = true → qju m' t' = true → qju (m ++ m') (t ++ t') = true
  | [], [], m', t', _, _, h => h
  | [], _ :: _, _, _, h, _, _ => by simp at h
  | _ :: _, [], _, _, h, _, _ => by simp at h
  | x :: m, y :: t, m', t', hl, h, h' => by
    simp only [List.cons_append, qju, Bool.and_eq_true] at h ⊢
    exact ⟨h.1, h.2.1, qin m t m' t' (by simpa using hl) h.2.2 h'⟩
theorem qio {x y : Int} {m t : List Int} (h1 : 0 ≤ x ∧ x ≤ 10000000) (h2 : 0 ≤ y ∧ y ≤ 1000 * x) (h : qju m t = true) : qju (x :: m) (y :: t) = true := by
  simp only [qju, Bool.and_eq_true, qg5]; exact ⟨h1, h2, h⟩
theorem qg8 {m : List Int} {i : Nat} (h : i < m.length) : isum (m.take i) + m.getD i 0 + isum (m.drop (i + 1)) = isum m := by
  have e := qdx h 0
  have := congrArg isum e
  rw [qg7, isum] at this
  omega
abbrev hA (x : Int) : Int := x - x / 2
abbrev hB (x : Int) : Int := x / 2
theorem hAB {x : Int} (h : 0 ≤ x) : hA x + hB x = x ∧ 0 ≤ hB x ∧ hB x ≤ x ∧ 0 ≤ hA x ∧ hA x ≤ x := by unfold hA hB; omega
def rfM (m : List Int) (i : Nat) : List Int := m.take i ++ hA (m.getD i 0) :: hB (m.getD i 0) :: m.drop (i + 1)
abbrev shr (t m : Int) : Int := qmp t (hA m) m
def rfT (t m : List Int) (i : Nat) : List Int := t.take i ++ shr (t.getD i 0) (m.getD i 0) :: (t.getD i 0 - shr (t.getD i 0) (m.getD i 0)) :: t.drop (i + 1)
def rfS (s : S3) (i : Nat) : S3 := (qmv s.1 i, rfM s.2.1 i, rfT s.2.2 s.2.1 i)
theorem qmt {t m : Int} (hm : 0 ≤ m ∧ m ≤ 10000000) (ht : 0 ≤ t ∧ t ≤ 1000 * m) : (0 ≤ shr t m ∧ shr t m ≤ 1000 * hA m) ∧ 0 ≤ t - shr t m ∧ t - shr t m ≤ 1000 * hB m := by
  have q := hAB hm.1
  have p1 := (qmq t (hA m) m).1
  have p2 := qmr (t := t) (p := hA m) (m := m) ht.1 (by omega) ht.2
  by_cases h0 : m = 0
  · subst h0
    have : t = 0 := by omega
    subst this
    have p3 : shr 0 0 = 0 := by unfold shr; omega
    rw [p3] at *
    exact ⟨⟨by omega, by omega⟩, by omega, by omega⟩
  · have e : shr t m = (t * hA m) / m := by
      unfold shr qmp
      rw [show inR m 1 10000000 = true from qg5.2 (by omega), show inR (hA m) 0 m = true from qg5.2 (by omega), show inR t 0 (1000 * m) = true from qg5.2 ht]
      simp only [Bool.and_self, qds]
      exact Int.tdiv_eq_ediv_of_nonneg (Int.mul_nonneg ht.1 (by omega))
    refine ⟨⟨p1, p2⟩, ?_, ?_⟩
    · have : (t * hA m) / m ≤ t := by
        apply Int.ediv_le_of_le_mul (by omega)
        exact Int.mul_le_mul_of_nonneg_left (by omega) ht.1
      omega
    · have hx : t * hB m ≤ 1000 * m * hB m := Int.mul_le_mul_of_nonneg_right ht.2 (by omega)
      have hs : t * hA m + t * hB m = t * m := by rw [← Int.mul_add, q.1]
      have h2 : (t - 1000 * hB m) * m ≤ t * hA m := by
        rw [Int.sub_mul, Int.mul_right_comm 1000 (hB m) m]
        rw [show 1000 * m * hB m = 1000 * m * hB m from rfl] at hx
        omega
      have : t - 1000 * hB m ≤ (t * hA m) / m := (Int.le_ediv_iff_mul_le (by omega)).2 h2
      omega
theorem qlc {m : List Int} {i : Nat} (h : i < m.length) : (rfM m i).length = m.length + 1 := by
  simp only [rfM, List.length_append, List.length_take, List.length_cons, List.length_drop]; omega
theorem qle {t m : List Int} {i : Nat} (h : i < t.length) : (rfT t m i).length = t.length + 1 := by
  simp only [rfT, List.length_append, List.length_take, List.length_cons, List.length_drop]; omega
theorem qld {m : List Int} {i : Nat} (h : i < m.length) (h0 : 0 ≤ m.getD i 0) : isum (rfM m i) = isum m := by
  have := qg8 h; have := hAB h0
  simp only [rfM, qg7, isum]
  omega
theorem qlf {t m : List Int} {i : Nat} (h : i < t.length) : isum (rfT t m i) = isum t := by
  have := qg8 h
  simp only [rfT, qg7, isum]
  omega
theorem rf_U {r : Int} {s : S3} {b : List Int} (U : StU r s b) {i : Nat} (hi : i < s.1.length) (hl : qic s.1 i < 4) : StU r (rfS s i) b := by
  have a := U.at i; have ml := U.ml; have tl := U.tl; have q := hAB a.1
  have sh := qmt ⟨a.1, a.2.1⟩ ⟨a.2.2.1, a.2.2.2⟩
  refine ⟨qmx U.mesh hi hl, ?_, ?_, U.bl, ?_, U.bed, ?_⟩
  · show (rfM s.2.1 i).length = (qmv s.1 i).length
    rw [qlc (by omega), qmw hi]; omega
  · show (rfT s.2.2 s.2.1 i).length = (qmv s.1 i).length
    rw [qle (by omega), qmw hi]; omega
  · exact qin _ _ _ _ (by rw [List.length_take, List.length_take]; omega) (qiq i _ _ U.mt) (qio (by omega) sh.1 (qio (by omega) sh.2 (qip _ _ _ U.mt)))
  · show isum (rfM s.2.1 i) ≤ _
    rw [qld (by omega) a.1]; exact U.sum
def cmM (m : List Int) (i : Nat) : List Int := m.take i ++ (m.getD i 0 + m.getD (i + 1) 0) :: m.drop (i + 2)
def cmS (s : S3) (i : Nat) : S3 := (qjy s.1 i, cmM s.2.1 i, cmM s.2.2 i)
theorem qdm {m : List Int} {i : Nat} (h : i + 1 < m.length) : (cmM m i).length + 1 = m.length := by
  simp only [cmM, List.length_append, List.length_take, List.length_cons, List.length_drop]; omega
theorem qg9 {m : List Int} {i : Nat} (h : i + 1 < m.length) : isum (m.take i) + m.getD i 0 + m.getD (i + 1) 0 + isum (m.drop (i + 2)) = isum m := by
  have e := qg8 (show i < m.length by omega)
  rw [qd3 h 0, isum, show i + 1 + 1 = i + 2 from rfl] at e
  omega
theorem qdn {m : List Int} {i : Nat} (h : i + 1 < m.length) : isum (cmM m i) = isum m := by
  have := qg9 h
  simp only [cmM, qg7, isum]
  omega
theorem qhc {m : List Int} (h : ∀ x ∈ m, 0 ≤ x) : 0 ≤ isum m := by
  induction m with
  | nil => simp [isum]
  | cons x m ih => have := h x (by simp); have := ih fun y hy => h y (by simp [hy]); simp only [isum]; omega
theorem cm_U {r : Int} {s : S3} {b : List Int} (U : StU r s b) {i : Nat} (hi : i + 1 < s.1.length) (hs : sib (s.1.getD i zz3) (s.1.getD (i + 1) zz3) = true) : StU r (cmS s i) b := by
  have a := U.at i; have a' := U.at (i + 1); have ml := U.ml; have tl := U.tl
  have mem := qjw _ _ (by rw [ml, tl]) U.mt
  have s1 := qhc (m := s.2.1.take i) fun x hx => (mem.1 x (List.mem_of_mem_take hx)).1
  have s2 := qhc (m := s.2.1.drop (i + 2)) fun x hx => (mem.1 x (List.mem_of_mem_drop hx)).1
  have s3 := qg9 (m := s.2.1) (i := i) (by omega)
  have s4 := U.sum
  refine ⟨qj0 U.mesh hi hs, ?_, ?_, U.bl, ?_, U.bed, ?_⟩
  · show (cmM s.2.1 i).length = (qjy s.1 i).length
    have h1 := qdm (m := s.2.1) (i := i) (by omega); have h2 := qjz hi; omega
  · show (cmM s.2.2 i).length = (qjy s.1 i).length
    have h1 := qdm (m := s.2.2) (i := i) (by omega); have h2 := qjz hi; omega
  · exact qin _ _ _ _ (by rw [List.length_take, List.length_take]; omega) (qiq i _ _ U.mt) (qio (by omega) (by omega) (qip _ _ _ U.mt))
  · show isum (cmM s.2.1 i) ≤ _
    rw [qdn (by omega)]; exact U.sum
theorem qmu {a b : Cell} (h : sib a b = true) : 1 ≤ a.2.1 := by
  simp only [sib, Bool.and_eq_true, decide_eq_true_eq] at h
  obtain ⟨h1, h2, h3, h4, h5, h6⟩ := h
  rw [← h3, ← h4, h6] at h2
  exact (qkt h1 h2 h5).1
end Go.Proofs.YtfgccfajhedgdaaGreat
end
section
namespace Go.Proofs.YtfgccfajhedgdaaGreat
open Go.Ev
set_option maxRecDepth 20000
theorem qcd (k : Nat) (hk : 2000000 ≤ k) (a : Int) (h : 0 ≤ a) (h' : a ≤ 1000000000) : go (k + 1) spec_SplitEven [(.int .i64 (a))] = some [.int .i64 (hA a), .int .i64 (hB a)] := by
  rw [qf6]
  have e : Int.tdiv a 2 = a / 2 := Int.tdiv_eq_ediv_of_nonneg h
  rw [e]
  simp (disch := omega) only [qaf, nth0, nth1, nth2, nth3, bit, qcw, qcx, qc8, qdd, qde, qdf, qdg, qdh, qdi, qdj, qcy, qcz, qc0, qc1, qc2, qc3, qc4, qc5, qc6, qc7, qc9, qda, qdb, qdc, qni, qnh, qnj, qkc, qky, qkz, qg6, qag, qm5, nI, qds, qdq, Bool.not_true, Bool.not_false, Bool.and_true, Bool.true_and, Bool.and_false, Bool.false_and, Bool.or_true, Bool.true_or, Bool.or_false, Bool.false_or, beq_self_eq_true, dTT, dFF, dT, dF, bigI, big0, qkb, qn6, qn7, List.length_set, List.length_replicate, Int.toNat_natCast, qcu, qcv, imax, imin]
theorem qat (k : Nat) (hk : 2000000 ≤ k) (a : Int) (h : 0 ≤ a) (h' : a ≤ 1000000000) : go (k + 1) impl_SplitEven [(.int .i64 (a))] = some [.int .i64 (hA a), .int .i64 (hB a)] := by
  rw [qei]
  have e : Int.tdiv a 2 = a / 2 := Int.tdiv_eq_ediv_of_nonneg h
  rw [e]
  simp (disch := omega) only [qaf, nth0, nth1, nth2, nth3, bit, qcw, qcx, qc8, qdd, qde, qdf, qdg, qdh, qdi, qdj, qcy, qcz, qc0, qc1, qc2, qc3, qc4, qc5, qc6, qc7, qc9, qda, qdb, qdc, qni, qnh, qnj, qkc, qky, qkz, qg6, qag, qm5, nI, qds, qdq, Bool.not_true, Bool.not_false, Bool.and_true, Bool.true_and, Bool.and_false, Bool.false_and, Bool.or_true, Bool.true_or, Bool.or_false, Bool.false_or, beq_self_eq_true, dTT, dFF, dT, dF, bigI, big0, qkb, qn6, qn7, List.length_set, List.length_replicate, Int.toNat_natCast, qcu, qcv, imax, imin]
theorem qct (k : Nat) (hk : 2000000 ≤ k) (r : Int) (s : S3) (b : List Int) (U : StU r s b) (i : Nat) (hi : i < s.1.length) (hv : qic s.1 i < 4) :
    go (k + 5) spec_l08Split [.agg [.int .i64 (r), .arr false (false) (.r3 (s.1)), .arr false (false) (.ints .i64 (s.2.1)), .arr false (false) (.ints .i64 (s.2.2)), .arr false (false) (.ints .i64 (b))], .int .i64 (i : Int)] = some [.agg [.int .i64 (r), .arr true (false) (.r3 ((rfS s i).1)), .arr true (false) (.ints .i64 ((rfS s i).2.1)), .arr true (false) (.ints .i64 ((rfS s i).2.2)), .arr true (false) (.ints .i64 (b))]] := by
  obtain ⟨l, m, t⟩ := s
  simp only at hi hv ⊢
  rw [qgk]
  have L := U.len; have ml : m.length = l.length := U.ml; have tl : t.length = l.length := U.tl; have bl := U.bl; have rr := U.rr
  have a : 0 ≤ m.getD i 0 ∧ m.getD i 0 ≤ 10000000 ∧ 0 ≤ t.getD i 0 ∧ t.getD i 0 ≤ 1000 * m.getD i 0 := U.at i
  simp only at L
  have q := hAB a.1
  have sh := qmt ⟨a.1, a.2.1⟩ ⟨a.2.2.1, a.2.2.2⟩
  simp only [shr] at sh
  have m1 : (m.take i).length = i := by rw [List.length_take]; omega
  have t1 : (t.take i).length = i := by rw [List.length_take]; omega
  have l2 : ∀ (x : List Int) (p q : Int), x.length = i → (x ++ [p, q]).length = i + 2 := fun x p q h => by rw [List.length_append, h]; rfl
  have m2 := fun p q => l2 (m.take i) p q m1
  have t2 := fun p q => l2 (t.take i) p q t1
  have m3 : ∀ p q : Int, (m.take i ++ [p, q] ++ m.drop (i + 1)).length = l.length + 1 := fun p q => by rw [List.length_append, m2, List.length_drop]; omega
  have t3 : ∀ p q : Int, (t.take i ++ [p, q] ++ t.drop (i + 1)).length = l.length + 1 := fun p q => by rw [List.length_append, t2, List.length_drop]; omega
  have cS := qco k (by omega) r false l i (by omega) hi (U.id hi) hv
  simp (disch := omega) only [qaf, nth0, nth1, nth2, nth3, bit, qcw, qcx, qc8, qdd, qde, qdf, qdg, qdh, qdi, qdj, qcy, qcz, qc0, qc1, qc2, qc3, qc4, qc5, qc6, qc7, qc9, qda, qdb, qdc, qni, qnh, qnj, qkc, qky, qkz, qg6, qag, qm5, nI, qds, qdq, Bool.not_true, Bool.not_false, Bool.and_true, Bool.true_and, Bool.and_false, Bool.false_and, Bool.or_true, Bool.true_or, Bool.or_false, Bool.false_or, beq_self_eq_true, dTT, dFF, dT, dF, bigI, big0, qkb, qn6, qn7, List.length_set, List.length_replicate, Int.toNat_natCast, qcu, qcv, imax, imin, qcd, qcc, cS, ton0, Nat.sub_zero, Nat.zero_add, List.drop_zero, qne, m1, t1, m2, t2, m3, t3]
  rw [List.append_assoc, List.append_assoc]
  rfl
theorem qaq (k : Nat) (hk : 2000000 ≤ k) (r : Int) (l : List Cell) (h : qj1 r 0 l = true) (i : Nat) (hi : i < l.length) (hv : qic l i < 4) :
    go (k + 2) impl_Mesh_refine [.ptr true [.int .i64 r, .arr true false (.r3 l)], .int .i64 (i : Int)] = some [.ptr true [.int .i64 r, .arr true false (.r3 (qmv l i))]] := by
  rw [qec]
  have L := qj6 h
  have id := qg3.1 ((qj5 _ _ _ h).2.2.2.1 _ hi).2.2
  have hp : pow2 (l.getD i zz3).2.1 ≤ 16 := by
    rcases lev (qg5.2 id.2.1) with e | e | e | e | e <;> rw [e] <;> decide
  have eR := qb0 k false false l [ch0 (l.getD i zz3), ch1 (l.getD i zz3)] (i : Int) ((i + 1 : Nat) : Int) (by omega) (by omega) (by omega) (by simp) (by simp <;> omega) (by omega) (by simp)
  rw [Int.toNat_natCast, Int.toNat_natCast] at eR
  simp only [qic] at hv
  simp (disch := omega) only [qaf, nth0, nth1, nth2, nth3, bit, qcw, qcx, qc8, qdd, qde, qdf, qdg, qdh, qdi, qdj, qcy, qcz, qc0, qc1, qc2, qc3, qc4, qc5, qc6, qc7, qc9, qda, qdb, qdc, qni, qnh, qnj, qkc, qky, qkz, qg6, qag, qm5, nI, qds, qdq, Bool.not_true, Bool.not_false, Bool.and_true, Bool.true_and, Bool.and_false, Bool.false_and, Bool.or_true, Bool.true_or, Bool.or_false, Bool.false_or, beq_self_eq_true, dTT, dFF, dT, dF, bigI, big0, qkb, qn6, qn7, List.length_set, List.length_replicate, Int.toNat_natCast, qcu, qcv, imax, imin, qeu, Int.add_zero, eR]
  rw [List.append_assoc]; rfl
theorem qa7 (k : Nat) (hk : 2000000 ≤ k) (r : Int) (s : S3) (b : List Int) (U : StU r s b) (i : Nat) (hi : i < s.1.length) (hv : qic s.1 i < 4) :
    go (k + 3) impl_State_refine [.ptr true [.int .i64 (r), .arr true (false) (.r3 (s.1)), .arr true (false) (.ints .i64 (s.2.1)), .arr true (false) (.ints .i64 (s.2.2)), .arr true (false) (.ints .i64 (b))], .int .i64 (i : Int)] = some [.ptr true [.int .i64 (r), .arr true (false) (.r3 ((rfS s i).1)), .arr true (false) (.ints .i64 ((rfS s i).2.1)), .arr true (false) (.ints .i64 ((rfS s i).2.2)), .arr true (false) (.ints .i64 (b))]] := by
  obtain ⟨l, m, t⟩ := s
  simp only at hi hv ⊢
  rw [qeo]
  have L := U.len; have ml : m.length = l.length := U.ml; have tl : t.length = l.length := U.tl; have bl := U.bl; have rr := U.rr
  have a : 0 ≤ m.getD i 0 ∧ m.getD i 0 ≤ 10000000 ∧ 0 ≤ t.getD i 0 ∧ t.getD i 0 ≤ 1000 * m.getD i 0 := U.at i
  simp only at L
  have q := hAB a.1
  have sh := qmt ⟨a.1, a.2.1⟩ ⟨a.2.2.1, a.2.2.2⟩
  simp only [shr] at sh
  have eM := qaq k (by omega) r l U.mesh i hi hv
  have e1 := qb1 (k + 1) false false m [hA (m.getD i 0), hB (m.getD i 0)] (i : Int) ((i + 1 : Nat) : Int) (by omega) (by omega) (by omega) (by simp) (by simp <;> omega) (by omega) (by simp)
  have e2 := qb1 (k + 1) false false t [qmp (t.getD i 0) (hA (m.getD i 0)) (m.getD i 0), t.getD i 0 - qmp (t.getD i 0) (hA (m.getD i 0)) (m.getD i 0)] (i : Int) ((i + 1 : Nat) : Int) (by omega) (by omega) (by omega) (by simp) (by simp <;> omega) (by omega) (by simp)
  rw [Int.toNat_natCast, Int.toNat_natCast] at e1 e2
  simp (disch := omega) only [qaf, nth0, nth1, nth2, nth3, bit, qcw, qcx, qc8, qdd, qde, qdf, qdg, qdh, qdi, qdj, qcy, qcz, qc0, qc1, qc2, qc3, qc4, qc5, qc6, qc7, qc9, qda, qdb, qdc, qni, qnh, qnj, qkc, qky, qkz, qg6, qag, qm5, nI, qds, qdq, Bool.not_true, Bool.not_false, Bool.and_true, Bool.true_and, Bool.and_false, Bool.false_and, Bool.or_true, Bool.true_or, Bool.or_false, Bool.false_or, beq_self_eq_true, dTT, dFF, dT, dF, bigI, big0, qkb, qn6, qn7, List.length_set, List.length_replicate, Int.toNat_natCast, qcu, qcv, imax, imin, qat, qas, eM, e1, e2, qkv, qkw, qkx]
  rw [List.append_assoc, List.append_assoc]
  rfl
theorem qah {a : Cell} (hid : idOk a.1 a.2.1 a.2.2 = true) (hv : 1 ≤ a.2.1) : (∀ (k : Nat), 2000000 ≤ k → go (k + 3) spec_ParentOf [.agg [.int .i64 a.1, .int .i64 a.2.1, .int .i64 a.2.2]] = some [.agg [.int .i64 (par a).1, .int .i64 (par a).2.1, .int .i64 (par a).2.2], .bool true]) ∧
    (∀ (k : Nat), 2000000 ≤ k → go (k + 4) impl_ParentOf [.agg [.int .i64 a.1, .int .i64 a.2.1, .int .i64 a.2.2]] = some [.agg [.int .i64 (par a).1, .int .i64 (par a).2.1, .int .i64 (par a).2.2], .bool true]) := by
  have id := qg3.1 hid
  have hp : pow2 a.2.1 ≤ 16 := by
    rcases lev (qg5.2 id.2.1) with e | e | e | e | e <;> rw [e] <;> decide
  have e : Int.tdiv a.2.2 2 = a.2.2 / 2 := Int.tdiv_eq_ediv_of_nonneg id.2.2.1
  refine ⟨fun k hk => ?_, fun k hk => ?_⟩
  · rw [qf3]; simp (disch := omega) only [qaf, nth0, nth1, nth2, nth3, bit, qcw, qcx, qc8, qdd, qde, qdf, qdg, qdh, qdi, qdj, qcy, qcz, qc0, qc1, qc2, qc3, qc4, qc5, qc6, qc7, qc9, qda, qdb, qdc, qni, qnh, qnj, qkc, qky, qkz, qg6, qag, qm5, nI, qds, qdq, Bool.not_true, Bool.not_false, Bool.and_true, Bool.true_and, Bool.and_false, Bool.false_and, Bool.or_true, Bool.true_or, Bool.or_false, Bool.false_or, beq_self_eq_true, dTT, dFF, dT, dF, bigI, big0, qkb, qn6, qn7, List.length_set, List.length_replicate, Int.toNat_natCast, qcu, qcv, imax, imin, qb5, hid, e]
  · rw [qee]; simp (disch := omega) only [qaf, nth0, nth1, nth2, nth3, bit, qcw, qcx, qc8, qdd, qde, qdf, qdg, qdh, qdi, qdj, qcy, qcz, qc0, qc1, qc2, qc3, qc4, qc5, qc6, qc7, qc9, qda, qdb, qdc, qni, qnh, qnj, qkc, qky, qkz, qg6, qag, qm5, nI, qds, qdq, Bool.not_true, Bool.not_false, Bool.and_true, Bool.true_and, Bool.and_false, Bool.false_and, Bool.or_true, Bool.true_or, Bool.or_false, Bool.false_or, beq_self_eq_true, dTT, dFF, dT, dF, bigI, big0, qkb, qn6, qn7, List.length_set, List.length_replicate, Int.toNat_natCast, qcu, qcv, imax, imin, qak, hid, e]
theorem qcp (k : Nat) (hk : 2000000 ≤ k) (r : Int) (z : Bool) (l : List Cell) (h : qj1 r 0 l = true) (i : Nat) (hi : i + 1 < l.length) (hv : 1 ≤ qic l i) :
    go (k + 4) spec_l06Merge [.agg [.int .i64 r, .arr false z (.r3 l)], .int .i64 (i : Int)] = some [.agg [.int .i64 r, .arr true false (.r3 (qjy l i))]] := by
  rw [qgg]
  have L := qj6 h
  have eP := (qah ((qj5 _ _ _ h).2.2.2.1 _ (show i < l.length by omega)).2.2 hv).1 k (by omega)
  have m1 : (l.take i).length = i := by rw [List.length_take]; omega
  have m2 : ∀ p : Cell, (l.take i ++ [p]).length = i + 1 := fun p => by rw [List.length_append, m1]; rfl
  have m3 : ∀ p : Cell, (l.take i ++ [p] ++ l.drop (i + 2)).length = l.length - 1 := fun p => by rw [List.length_append, m2, List.length_drop]; omega
  simp (disch := omega) only [qaf, nth0, nth1, nth2, nth3, bit, qcw, qcx, qc8, qdd, qde, qdf, qdg, qdh, qdi, qdj, qcy, qcz, qc0, qc1, qc2, qc3, qc4, qc5, qc6, qc7, qc9, qda, qdb, qdc, qni, qnh, qnj, qkc, qky, qkz, qg6, qag, qm5, nI, qds, qdq, Bool.not_true, Bool.not_false, Bool.and_true, Bool.true_and, Bool.and_false, Bool.false_and, Bool.or_true, Bool.true_or, Bool.or_false, Bool.false_or, beq_self_eq_true, dTT, dFF, dT, dF, bigI, big0, qkb, qn6, qn7, List.length_set, List.length_replicate, Int.toNat_natCast, qcu, qcv, imax, imin, eP, ton0, Nat.sub_zero, Nat.zero_add, List.drop_zero, qne, m1, m2, m3]
  rw [List.append_assoc]; rfl
theorem qcs (k : Nat) (hk : 2000000 ≤ k) (r : Int) (s : S3) (b : List Int) (U : StU r s b) (i : Nat) (hi : i + 1 < s.1.length) (hv : 1 ≤ qic s.1 i) :
    go (k + 5) spec_l08Merge [.agg [.int .i64 (r), .arr false (false) (.r3 (s.1)), .arr false (false) (.ints .i64 (s.2.1)), .arr false (false) (.ints .i64 (s.2.2)), .arr false (false) (.ints .i64 (b))], .int .i64 (i : Int)] = some [.agg [.int .i64 (r), .arr true (false) (.r3 ((cmS s i).1)), .arr true (false) (.ints .i64 ((cmS s i).2.1)), .arr true (false) (.ints .i64 ((cmS s i).2.2)), .arr true (false) (.ints .i64 (b))]] := by
  obtain ⟨l, m, t⟩ := s
  simp only at hi hv ⊢
  rw [qgj]
  have L := U.len; have ml : m.length = l.length := U.ml; have tl : t.length = l.length := U.tl; have bl := U.bl; have rr := U.rr
  have a : 0 ≤ m.getD i 0 ∧ m.getD i 0 ≤ 10000000 ∧ 0 ≤ t.getD i 0 ∧ t.getD i 0 ≤ 1000 * m.getD i 0 := U.at i
  have a' : 0 ≤ m.getD (i + 1) 0 ∧ m.getD (i + 1) 0 ≤ 10000000 ∧ 0 ≤ t.getD (i + 1) 0 ∧ t.getD (i + 1) 0 ≤ 1000 * m.getD (i + 1) 0 := U.at (i + 1)
  simp only at L
  have eM := qcp k (by omega) r false l U.mesh i hi hv
  have m1 : (m.take i).length = i := by rw [List.length_take]; omega
  have t1 : (t.take i).length = i := by rw [List.length_take]; omega
  have m2 : ∀ p : Int, (m.take i ++ [p]).length = i + 1 := fun p => by rw [List.length_append, m1]; rfl
  have t2 : ∀ p : Int, (t.take i ++ [p]).length = i + 1 := fun p => by rw [List.length_append, t1]; rfl
  have m3 : (m.take i ++ [m.getD i 0 + m.getD (i + 1) 0] ++ m.drop (i + 2)).length + 1 = l.length := by rw [List.length_append, m2, List.length_drop]; omega
  have t3 : (t.take i ++ [t.getD i 0 + t.getD (i + 1) 0] ++ t.drop (i + 2)).length + 1 = l.length := by rw [List.length_append, t2, List.length_drop]; omega
  simp (disch := omega) only [qaf, nth0, nth1, nth2, nth3, bit, qcw, qcx, qc8, qdd, qde, qdf, qdg, qdh, qdi, qdj, qcy, qcz, qc0, qc1, qc2, qc3, qc4, qc5, qc6, qc7, qc9, qda, qdb, qdc, qni, qnh, qnj, qkc, qky, qkz, qg6, qag, qm5, nI, qds, qdq, Bool.not_true, Bool.not_false, Bool.and_true, Bool.true_and, Bool.and_false, Bool.false_and, Bool.or_true, Bool.true_or, Bool.or_false, Bool.false_or, beq_self_eq_true, dTT, dFF, dT, dF, bigI, big0, qkb, qn6, qn7, List.length_set, List.length_replicate, Int.toNat_natCast, qcu, qcv, imax, imin, eM, ton0, Nat.sub_zero, Nat.zero_add, List.drop_zero, qne, m1, m2, t1, t2]
  rw [List.append_assoc, List.append_assoc]
  rfl
theorem qap (k : Nat) (hk : 2000000 ≤ k) (r : Int) (l : List Cell) (h : qj1 r 0 l = true) (i : Nat) (hi : i + 1 < l.length) (hv : 1 ≤ qic l i) :
    go (k + 5) impl_Mesh_coarsen [.ptr true [.int .i64 r, .arr true false (.r3 l)], .int .i64 (i : Int)] = some [.ptr true [.int .i64 r, .arr true false (.r3 (qjy l i))]] := by
  rw [qeb]
  have L := qj6 h
  have eP := (qah ((qj5 _ _ _ h).2.2.2.1 _ (show i < l.length by omega)).2.2 hv).2 k (by omega)
  have eR := qb0 (k + 3) false false l [par (l.getD i zz3)] (i : Int) ((i + 2 : Nat) : Int) (by omega) (by omega) (by omega) (by simp) (by simp <;> omega) (by omega) (by simp)
  rw [Int.toNat_natCast, Int.toNat_natCast] at eR
  simp (disch := omega) only [qaf, nth0, nth1, nth2, nth3, bit, qcw, qcx, qc8, qdd, qde, qdf, qdg, qdh, qdi, qdj, qcy, qcz, qc0, qc1, qc2, qc3, qc4, qc5, qc6, qc7, qc9, qda, qdb, qdc, qni, qnh, qnj, qkc, qky, qkz, qg6, qag, qm5, nI, qds, qdq, Bool.not_true, Bool.not_false, Bool.and_true, Bool.true_and, Bool.and_false, Bool.false_and, Bool.or_true, Bool.true_or, Bool.or_false, Bool.false_or, beq_self_eq_true, dTT, dFF, dT, dF, bigI, big0, qkb, qn6, qn7, List.length_set, List.length_replicate, Int.toNat_natCast, qcu, qcv, imax, imin, eP, eR]
  rw [List.append_assoc]; rfl
theorem qaz (k : Nat) (hk : 2000000 ≤ k) (r : Int) (s : S3) (b : List Int) (U : StU r s b) (i : Nat) (hi : i + 1 < s.1.length) (hv : 1 ≤ qic s.1 i) :
    go (k + 6) impl_State_coarsen [.ptr true [.int .i64 (r), .arr true (false) (.r3 (s.1)), .arr true (false) (.ints .i64 (s.2.1)), .arr true (false) (.ints .i64 (s.2.2)), .arr true (false) (.ints .i64 (b))], .int .i64 (i : Int)] = some [.ptr true [.int .i64 (r), .arr true (false) (.r3 ((cmS s i).1)), .arr true (false) (.ints .i64 ((cmS s i).2.1)), .arr true (false) (.ints .i64 ((cmS s i).2.2)), .arr true (false) (.ints .i64 (b))]] := by
  obtain ⟨l, m, t⟩ := s
  simp only at hi hv ⊢
  rw [qel]
  have L := U.len; have ml : m.length = l.length := U.ml; have tl : t.length = l.length := U.tl; have bl := U.bl; have rr := U.rr
  have a : 0 ≤ m.getD i 0 ∧ m.getD i 0 ≤ 10000000 ∧ 0 ≤ t.getD i 0 ∧ t.getD i 0 ≤ 1000 * m.getD i 0 := U.at i
  have a' : 0 ≤ m.getD (i + 1) 0 ∧ m.getD (i + 1) 0 ≤ 10000000 ∧ 0 ≤ t.getD (i + 1) 0 ∧ t.getD (i + 1) 0 ≤ 1000 * m.getD (i + 1) 0 := U.at (i + 1)
  simp only at L
  have eM := qap k (by omega) r l U.mesh i hi hv
  have e1 := qb1 (k + 4) false false m [m.getD i 0 + m.getD (i + 1) 0] (i : Int) ((i + 2 : Nat) : Int) (by omega) (by omega) (by omega) (by simp) (by simp <;> omega) (by omega) (by simp)
  have e2 := qb1 (k + 4) false false t [t.getD i 0 + t.getD (i + 1) 0] (i : Int) ((i + 2 : Nat) : Int) (by omega) (by omega) (by omega) (by simp) (by simp <;> omega) (by omega) (by simp)
  rw [Int.toNat_natCast, Int.toNat_natCast] at e1 e2
  simp (disch := omega) only [qaf, nth0, nth1, nth2, nth3, bit, qcw, qcx, qc8, qdd, qde, qdf, qdg, qdh, qdi, qdj, qcy, qcz, qc0, qc1, qc2, qc3, qc4, qc5, qc6, qc7, qc9, qda, qdb, qdc, qni, qnh, qnj, qkc, qky, qkz, qg6, qag, qm5, nI, qds, qdq, Bool.not_true, Bool.not_false, Bool.and_true, Bool.true_and, Bool.and_false, Bool.false_and, Bool.or_true, Bool.true_or, Bool.or_false, Bool.false_or, beq_self_eq_true, dTT, dFF, dT, dF, bigI, big0, qkb, qn6, qn7, List.length_set, List.length_replicate, Int.toNat_natCast, qcu, qcv, imax, imin, eM, e1, e2, qkv, qkw, qkx]
  rw [List.append_assoc, List.append_assoc]
  rfl
end Go.Proofs.YtfgccfajhedgdaaGreat
end
section
namespace Go.Proofs.YtfgccfajhedgdaaGreat
open Go.Ev
set_option maxRecDepth 20000
def qid (x : Cell) : List Cell → Nat → Int
  | [], _ => -1
  | y :: r, i => if y = x then (i : Int) else qid x r (i + 1)
def lof (l : List Cell) (x : Cell) : Int := qid x l 0
theorem qjc (k : Nat) (hk : 2000000 ≤ k) (fu : List (Nat × Nat)) (r : Int) (z : Bool) (l : List Cell) (x : Cell) (hl : l.length ≤ 1048576) : ∀ (N i : Nat), i ≤ l.length → l.length - i < N →
    lp k spec_LeafOf [] fu 2 (N) (ql6 (i : Int) z l r x.1 x.2.1 x.2.2) = some [.int .i64 (qid x (l.drop i) i)]
  | 0, i, hi, hN => by omega
  | N + 1, i, hi, hN => by
    rw [qhz]
    by_cases g : i < l.length
    · have IH := qjc k hk fu r z l x hl N (i + 1) (by omega) (by omega)
      rw [qd3 g zz3, qid]
      by_cases h : l.getD i zz3 = x
      · rw [if_pos h]; simp (disch := omega) only [qaf, nth0, nth1, nth2, nth3, bit, qcw, qcx, qc8, qdd, qde, qdf, qdg, qdh, qdi, qdj, qcy, qcz, qc0, qc1, qc2, qc3, qc4, qc5, qc6, qc7, qc9, qda, qdb, qdc, qni, qnh, qnj, qkc, qky, qkz, qg6, qag, qm5, nI, qds, qdq, Bool.not_true, Bool.not_false, Bool.and_true, Bool.true_and, Bool.and_false, Bool.false_and, Bool.or_true, Bool.true_or, Bool.or_false, Bool.false_or, beq_self_eq_true, dTT, dFF, dT, dF, bigI, big0, qkb, qn6, qn7, List.length_set, List.length_replicate, Int.toNat_natCast, qcu, qcv, imax, imin, h]
      · rw [if_neg h]
        have : (decide ((l.getD i zz3).1 = x.1) && (decide ((l.getD i zz3).2.1 = x.2.1) && decide ((l.getD i zz3).2.2 = x.2.2))) = false := by
          rw [← Bool.not_eq_true]
          intro e
          simp only [Bool.and_eq_true, decide_eq_true_eq] at e
          exact h (Prod.ext e.1 (Prod.ext e.2.1 e.2.2))
        simp (disch := omega) only [qaf, nth0, nth1, nth2, nth3, bit, qcw, qcx, qc8, qdd, qde, qdf, qdg, qdh, qdi, qdj, qcy, qcz, qc0, qc1, qc2, qc3, qc4, qc5, qc6, qc7, qc9, qda, qdb, qdc, qni, qnh, qnj, qkc, qky, qkz, qg6, qag, qm5, nI, qds, qdq, Bool.not_true, Bool.not_false, Bool.and_true, Bool.true_and, Bool.and_false, Bool.false_and, Bool.or_true, Bool.true_or, Bool.or_false, Bool.false_or, beq_self_eq_true, dTT, dFF, dT, dF, bigI, big0, qkb, qn6, qn7, List.length_set, List.length_replicate, Int.toNat_natCast, qcu, qcv, imax, imin, this, IH]
    · rw [List.drop_of_length_le (by omega)]; simp (disch := omega) only [qaf, nth0, nth1, nth2, nth3, bit, qcw, qcx, qc8, qdd, qde, qdf, qdg, qdh, qdi, qdj, qcy, qcz, qc0, qc1, qc2, qc3, qc4, qc5, qc6, qc7, qc9, qda, qdb, qdc, qni, qnh, qnj, qkc, qky, qkz, qg6, qag, qm5, nI, qds, qdq, Bool.not_true, Bool.not_false, Bool.and_true, Bool.true_and, Bool.and_false, Bool.false_and, Bool.or_true, Bool.true_or, Bool.or_false, Bool.false_or, beq_self_eq_true, dTT, dFF, dT, dF, bigI, big0, qkb, qn6, qn7, List.length_set, List.length_replicate, Int.toNat_natCast, qcu, qcv, imax, imin]; rfl
theorem qb7 (k : Nat) (hk : 2000000 ≤ k) (r : Int) (z : Bool) (l : List Cell) (x : Cell) (hl : l.length ≤ 1048576) : go (k + 1) spec_LeafOf [.agg [.int .i64 r, .arr false z (.r3 l)], .agg [.int .i64 x.1, .int .i64 x.2.1, .int .i64 x.2.2]] = some [.int .i64 (lof l x)] := by
  rw [qf0]
  exact qjc k hk [] r z l x hl _ 0 (by omega) (by omega)
theorem qie (x : Cell) : ∀ (l : List Cell) (i : Nat), (qid x l i = -1 ∧ x ∉ l) ∨ ∃ j, j < l.length ∧ qid x l i = ((i + j : Nat) : Int) ∧ l.getD j zz3 = x
  | [], i => Or.inl ⟨rfl, by simp⟩
  | y :: r, i => by
    unfold qid
    by_cases h : y = x
    · rw [if_pos h]; exact Or.inr ⟨0, by simp, by simp, by simpa using h⟩
    · rw [if_neg h]
      rcases qie x r (i + 1) with ⟨e, n⟩ | ⟨j, hj, e, n⟩
      · exact Or.inl ⟨e, by simp only [List.mem_cons, not_or]; exact ⟨fun e => h e.symm, n⟩⟩
      · exact Or.inr ⟨j + 1, by simp; omega, by rw [e]; congr 1; omega, by simpa using n⟩
theorem qig (l : List Cell) (x : Cell) : (lof l x = -1 ∧ x ∉ l) ∨ ∃ j, j < l.length ∧ lof l x = (j : Int) ∧ l.getD j zz3 = x := by
  rcases qie x l 0 with h | ⟨j, hj, e, n⟩
  · exact Or.inl h
  · exact Or.inr ⟨j, hj, by unfold lof; rw [e, Nat.zero_add], n⟩
theorem qkk : ∀ (l : List Cell) (p : Int), okp p l = true → ∀ x ∈ l, p ≤ qmz x.1 x.2.1 x.2.2
  | [], p, h, x, hx => by cases hx
  | y :: l, p, h, x, hx => by
    rw [qkj] at h
    rcases List.mem_cons.1 hx with rfl | hx
    · omega
    · have := qkk l _ h.2.2 x hx
      have := qn2 y.2.1
      omega
theorem qn3 {x : Cell} (h : idOk x.1 x.2.1 x.2.2 = true) : 1 ≤ qn0 x.2.1 := by
  rcases lev (qg5.2 (qg3.1 h).2.1) with e | e | e | e | e <;> rw [e] <;> decide
end Go.Proofs.YtfgccfajhedgdaaGreat
end
section
namespace Go.Proofs.YtfgccfajhedgdaaGreat
open Go.Ev
structure Ld where
  mi : Int
  mo : Int
  ti : Int
  ou : Int
def Ld.add (a b : Ld) : Ld := ⟨a.mi + b.mi, a.mo + b.mo, a.ti + b.ti, a.ou + b.ou⟩
theorem qnb {f : Nat → Int} : ∀ n, (∀ j, j < n → 0 ≤ f j) → 0 ≤ qm8 f n
  | 0, h => Int.le_refl _
  | n + 1, h => by have := qnb n fun j hj => h j (by omega); have := h n (by omega); simp only [qm8]; omega
theorem qm9 {f g : Nat → Int} : ∀ n, (∀ j, j < n → f j ≤ g j) → qm8 f n ≤ qm8 g n
  | 0, h => Int.le_refl _
  | n + 1, h => by have := qm9 n fun j hj => h j (by omega); have := h n (by omega); simp only [qm8]; omega
section
variable {r : Int} {l : List Cell} {m t b : List Int}
end
section
variable {r : Int} {l : List Cell} {m t b : List Int}
end
end Go.Proofs.YtfgccfajhedgdaaGreat
end
section
namespace Go.Proofs.YtfgccfajhedgdaaGreat
open Go.Ev
structure StV (r : Int) (s : S3) (b : List Int) (M T : Int) : Prop where
  u : StU r s b
  m : isum s.2.1 = M
  t : isum s.2.2 = T
theorem rf_V {r : Int} {s : S3} {b : List Int} {M T : Int} (V : StV r s b M T) {i : Nat} (hi : i < s.1.length) (hl : qic s.1 i < 4) : StV r (rfS s i) b M T := by
  have ml := V.u.ml; have tl := V.u.tl
  exact ⟨rf_U V.u hi hl, by show isum (rfM s.2.1 i) = M; rw [qld (by omega) (V.u.at i).1]; exact V.m, by show isum (rfT s.2.2 s.2.1 i) = T; rw [qlf (by omega)]; exact V.t⟩
theorem cm_V {r : Int} {s : S3} {b : List Int} {M T : Int} (V : StV r s b M T) {i : Nat} (hi : i + 1 < s.1.length) (hs : sib (s.1.getD i zz3) (s.1.getD (i + 1) zz3) = true) : StV r (cmS s i) b M T := by
  have ml := V.u.ml; have tl := V.u.tl
  exact ⟨cm_U V.u hi hs, by show isum (cmM s.2.1 i) = M; rw [qdn (by omega)]; exact V.m, by show isum (cmM s.2.2 i) = T; rw [qdn (by omega)]; exact V.t⟩
end Go.Proofs.YtfgccfajhedgdaaGreat
end
section
namespace Go.Proofs.YtfgccfajhedgdaaGreat
open Go.Ev
abbrev cwd (x : Cell) : Int := qn0 x.2.1
abbrev cid (x : Cell) : Bool := idOk x.1 x.2.1 x.2.2
theorem qdy {x : Cell} (h : cid x = true) : 1 ≤ cwd x := qn3 h
def cov (a b : Cell) : Bool := cid a && (cid b && (decide (a.1 = b.1) && (decide (a.2.1 ≤ b.2.1) && decide (b.2.2 / pow2 (b.2.1 - a.2.1) = a.2.2))))
set_option maxHeartbeats 1000000 in
theorem qdv {a b : Cell} (ha : cid a = true) (hb : cid b = true) : cov a b = true ↔ cst a ≤ cst b ∧ cst b < cst a + cwd a ∧ a.2.1 ≤ b.2.1 := by
  obtain ⟨r, la, i⟩ := a
  obtain ⟨r', lb, j⟩ := b
  have ha' := qg3.1 ha; have hb' := qg3.1 hb
  simp only [cov, ha, hb, Bool.true_and, Bool.and_eq_true, decide_eq_true_eq]
  show _ ↔ qmz r la i ≤ qmz r' lb j ∧ qmz r' lb j < qmz r la i + qn0 la ∧ la ≤ lb
  rw [qm1 ha, qm1 hb]
  clear ha hb
  rcases lev (qg5.2 ha'.2.1) with rfl | rfl | rfl | rfl | rfl <;> rcases lev (qg5.2 hb'.2.1) with rfl | rfl | rfl | rfl | rfl <;> simp only [w0, w1_, w2_, w3_, w4_, p20, p21, p22, p23, p24, Int.reduceSub, Int.sub_self] at ha' hb' ⊢ <;> omega
set_option maxHeartbeats 1000000 in
theorem qd4 {a b : Cell} (ha : cid a = true) (hb : cid b = true) {p : Int} (h1 : cst a ≤ p) (h2 : p < cst a + cwd a) (h3 : cst b ≤ p) (h4 : p < cst b + cwd b) (hl : a.2.1 ≤ b.2.1) : cst a ≤ cst b ∧ cst b + cwd b ≤ cst a + cwd a := by
  obtain ⟨r, la, i⟩ := a
  obtain ⟨r', lb, j⟩ := b
  have ha' := qg3.1 ha; have hb' := qg3.1 hb
  change qmz r la i ≤ p at h1
  change p < qmz r la i + qn0 la at h2
  change qmz r' lb j ≤ p at h3
  change p < qmz r' lb j + qn0 lb at h4
  show qmz r la i ≤ qmz r' lb j ∧ qmz r' lb j + qn0 lb ≤ qmz r la i + qn0 la
  change la ≤ lb at hl
  rw [qm1 ha, qm1 hb] at *
  clear ha hb
  rcases lev (qg5.2 ha'.2.1) with rfl | rfl | rfl | rfl | rfl <;> rcases lev (qg5.2 hb'.2.1) with rfl | rfl | rfl | rfl | rfl <;> simp only [w0, w1_, w2_, w3_, w4_, p20, p21, p22, p23, p24] at ha' hb' h1 h2 h3 h4 ⊢ <;> omega
theorem qmj {a b : Cell} (ha : cid a = true) (hb : cid b = true) (h : cst a = cst b) (hl : a.2.1 = b.2.1) : a = b := by
  obtain ⟨r, la, i⟩ := a
  obtain ⟨r', lb, j⟩ := b
  have ha' := qg3.1 ha; have hb' := qg3.1 hb
  change qmz r la i = qmz r' lb j at h
  change la = lb at hl
  subst hl
  rw [qm1 ha, qm1 hb] at h
  have : r = r' ∧ i = j := by
    clear ha hb
    rcases lev (qg5.2 ha'.2.1) with rfl | rfl | rfl | rfl | rfl <;> simp only [w0, w1_, w2_, w3_, w4_, p20, p21, p22, p23, p24] at ha' hb' h <;> omega
  rw [this.1, this.2]
theorem qkl {l : List Cell} {p : Int} (h : okp p l = true) {i : Nat} (hi : i < l.length) : cid (l.getD i zz3) = true := by
  induction l generalizing p i with
  | nil => simp at hi
  | cons x l ih =>
    rw [qkj] at h
    cases i with
    | zero => exact h.1
    | succ i => exact ih h.2.2 (by simpa using hi)
theorem qko {l : List Cell} {p : Int} (h : okp p l = true) {i : Nat} (hi : i < l.length) : cst (l.getD i zz3) = endp p (l.take i) := by
  induction l generalizing p i with
  | nil => simp at hi
  | cons x l ih =>
    rw [qkj] at h
    cases i with
    | zero => exact h.2.1
    | succ i => exact ih h.2.2 (by simpa using hi)
theorem qnf {l : List Cell} {i : Nat} (hi : i < l.length) : l.take (i + 1) = l.take i ++ [l.getD i zz3] := by
  rw [List.take_succ_eq_append_getElem hi]; simp [hi]
theorem qkp {l : List Cell} {p : Int} (h : okp p l = true) {i : Nat} (hi : i + 1 < l.length) : cst (l.getD (i + 1) zz3) = cst (l.getD i zz3) + cwd (l.getD i zz3) := by
  rw [qko h hi, qko h (by omega), qnf (by omega), qgr]; rfl
theorem qkn {l : List Cell} {p : Int} (h : okp p l = true) {i : Nat} : ∀ {j : Nat}, i < j → j < l.length → cst (l.getD i zz3) + cwd (l.getD i zz3) ≤ cst (l.getD j zz3)
  | 0, hij, hj => by omega
  | j + 1, hij, hj => by
    have s := qkp h hj
    by_cases e : i = j
    · subst e; omega
    · have := qkn h (i := i) (j := j) (by omega) (by omega)
      have w := qdy (qkl h (show j < l.length by omega))
      omega
theorem qki : ∀ {l : List Cell} {p q : Int}, okp p l = true → p ≤ q → q < endp p l → ∃ j, j < l.length ∧ cst (l.getD j zz3) ≤ q ∧ q < cst (l.getD j zz3) + cwd (l.getD j zz3)
  | [], p, q, h, h1, h2 => by have : endp p [] = p := rfl; omega
  | x :: l, p, q, h, h1, h2 => by
    rw [qkj] at h
    rw [qgs] at h2
    have h21 : cst x = p := h.2.1
    by_cases g : q < p + cwd x
    · exact ⟨0, by simp, by show cst x ≤ q; omega, by show q < cst x + cwd x; omega⟩
    · obtain ⟨j, hj, h3, h4⟩ := qki h.2.2 (show p + qn0 x.2.1 ≤ q from Int.not_lt.1 g) h2
      exact ⟨j + 1, by simpa using hj, by simpa using h3, by simpa using h4⟩
theorem qkq {l : List Cell} {p q : Int} (h : okp p l = true) {i j : Nat} (hi : i < l.length) (hj : j < l.length) (h1 : cst (l.getD i zz3) ≤ q) (h2 : q < cst (l.getD i zz3) + cwd (l.getD i zz3)) (h3 : cst (l.getD j zz3) ≤ q) (h4 : q < cst (l.getD j zz3) + cwd (l.getD j zz3)) : i = j := by
  by_cases e : i < j
  · have := qkn h e hj; omega
  · by_cases e' : j < i
    · have := qkn h e' hi; omega
    · omega
theorem qkm {l : List Cell} {p : Int} (h : okp p l = true) {i : Nat} (hi : i < l.length) : p ≤ cst (l.getD i zz3) ∧ cst (l.getD i zz3) + cwd (l.getD i zz3) ≤ endp p l := by
  induction l generalizing p i with
  | nil => simp at hi
  | cons x l ih =>
    rw [qkj] at h
    rw [qgs]
    have w : 1 ≤ qn0 x.2.1 := qdy h.1
    have e : ∀ (l : List Cell) (p : Int), okp p l = true → p ≤ endp p l := by
      intro l
      induction l with
      | nil => intro p _; exact Int.le_refl p
      | cons y l ih => intro p h; rw [qkj] at h; rw [qgs]; have := ih _ h.2.2; have := qn2 y.2.1; omega
    cases i with
    | zero =>
      have := e _ _ h.2.2
      have h21 := h.2.1
      show p ≤ qmz x.1 x.2.1 x.2.2 ∧ qmz x.1 x.2.1 x.2.2 + qn0 x.2.1 ≤ _
      omega
    | succ i =>
      have := ih h.2.2 (i := i) (by simpa using hi)
      simp only [List.getD_cons_succ]
      omega
theorem qjx {l : List Cell} {x : Cell} (h : x ∈ l) : ∃ j, j < l.length ∧ l.getD j zz3 = x := by
  obtain ⟨j, hj, e⟩ := List.getElem_of_mem h
  exact ⟨j, hj, by rw [List.getD_eq_getElem?_getD, List.getElem?_eq_getElem hj, Option.getD_some, e]⟩
def fstG (P : Cell → Bool) : List Cell → Nat → Int
  | [], i => -1
  | x :: l, i => if P x = true then (i : Int) else fstG P l (i + 1)
theorem qgw (P : Cell → Bool) : ∀ (l : List Cell) (i : Nat), (fstG P l i = -1 ∧ ∀ x ∈ l, P x = false) ∨ ∃ j, j < l.length ∧ fstG P l i = ((i + j : Nat) : Int) ∧ P (l.getD j zz3) = true
  | [], i => Or.inl ⟨rfl, by simp⟩
  | y :: l, i => by
    unfold fstG
    by_cases h : P y = true
    · rw [if_pos h]; exact Or.inr ⟨0, by simp, by simp, by simpa using h⟩
    · rw [if_neg h]
      rcases qgw P l (i + 1) with ⟨e, n⟩ | ⟨j, hj, e, n⟩
      · refine Or.inl ⟨e, fun x hx => ?_⟩
        rcases List.mem_cons.1 hx with rfl | hx
        · simpa using h
        · exact n x hx
      · exact Or.inr ⟨j + 1, by simp; omega, by rw [e]; congr 1; omega, by simpa using n⟩
def qm3 (m l : List Cell) : Int := fstG (fun x => decide (lof m x < 0)) l 0
theorem qif (m : List Cell) (x : Cell) : lof m x < 0 ↔ x ∉ m := by
  rcases qig m x with ⟨e, n⟩ | ⟨j, hj, e, n⟩
  · rw [e]; exact ⟨fun _ => n, fun _ => by omega⟩
  · rw [e]
    exact ⟨fun h => by omega, fun h => absurd (n ▸ qgy hj zz3) h⟩
theorem qm4 (m l : List Cell) : (qm3 m l = -1 ∧ ∀ x ∈ l, x ∈ m) ∨ ∃ j, j < l.length ∧ qm3 m l = (j : Int) ∧ l.getD j zz3 ∉ m := by
  rcases qgw (fun x => decide (lof m x < 0)) l 0 with ⟨e, n⟩ | ⟨j, hj, e, n⟩
  · refine Or.inl ⟨e, fun x hx => ?_⟩
    have := n x hx
    rw [decide_eq_false_iff_not, qif] at this
    exact Classical.byContradiction this
  · rw [Nat.zero_add] at e
    exact Or.inr ⟨j, hj, e, by rw [decide_eq_true_eq, qif] at n; exact n⟩
def qkr (m : List Cell) (x : Cell) : Int := fstG (fun y => cov y x) m 0
def qdz (y : Cell) (l0 : List Cell) : List Cell → Nat → Int → Int
  | [], j, best => best
  | z :: l, j, best => qdz y l0 l (j + 1) (if (cov y z && (decide (best < 0) || decide (qic l0 best.toNat < z.2.1))) = true then (j : Int) else best)
def deep (l : List Cell) (y : Cell) : Int := qdz y l l 0 (-1)
def qaa (y : Cell) (l : List Cell) (j : Nat) (best : Int) : Prop := (best = -1 ∧ ∀ q, q < j → cov y (l.getD q zz3) = false) ∨ ∃ b : Nat, best = (b : Int) ∧ b < j ∧ cov y (l.getD b zz3) = true ∧ (∀ q, q < j → cov y (l.getD q zz3) = true → qic l q ≤ qic l b) ∧ ∀ q, q < b → cov y (l.getD q zz3) = true → qic l q < qic l b
theorem qd0 (y : Cell) (l0 : List Cell) : ∀ (l : List Cell) (j : Nat) (best : Int), l = l0.drop j → j ≤ l0.length → qaa y l0 j best → qaa y l0 l0.length (qdz y l0 l j best)
  | [], j, best, e, hj, D => by
    have : l0.length ≤ j := by
      have := congrArg List.length e
      rw [List.length_drop, List.length_nil] at this; omega
    have : j = l0.length := by omega
    rw [← this]; exact D
  | z :: l, j, best, e, hj, D => by
    have hj' : j < l0.length := by
      have := congrArg List.length e
      rw [List.length_drop, List.length_cons] at this; omega
    rw [qd3 hj' zz3] at e
    injection e with e1 e2
    unfold qdz
    refine qd0 y l0 l (j + 1) _ e2 hj' ?_
    by_cases g : (cov y z && (decide (best < 0) || decide (qic l0 best.toNat < z.2.1))) = true
    · rw [if_pos g]
      simp only [Bool.and_eq_true, Bool.or_eq_true, decide_eq_true_eq] at g
      rw [e1] at g
      refine Or.inr ⟨j, rfl, by omega, g.1, ?_, ?_⟩
      · intro q hq hc
        by_cases h : q = j
        · subst h; exact Int.le_refl _
        · rcases D with ⟨_, n⟩ | ⟨b, rfl, hb, _, mx, _⟩
          · rw [n q (by omega)] at hc; cases hc
          · have := mx q (by omega) hc
            rw [Int.toNat_natCast] at g
            show _ ≤ (l0.getD j zz3).2.1
            omega
      · intro q hq hc
        rcases D with ⟨_, n⟩ | ⟨b, rfl, hb, _, mx, _⟩
        · rw [n q hq] at hc; cases hc
        · have := mx q hq hc
          rw [Int.toNat_natCast] at g
          show _ < (l0.getD j zz3).2.1
          omega
    · rw [if_neg g]
      rw [e1] at g
      rcases D with ⟨rfl, n⟩ | ⟨b, rfl, hb, hc, mx, fs⟩
      · refine Or.inl ⟨rfl, fun q hq => ?_⟩
        by_cases h : q = j
        · subst h
          cases hc : cov y (l0.getD q zz3)
          · rfl
          · exact absurd (by rw [hc]; rfl) g
        · exact n q (by omega)
      · refine Or.inr ⟨b, rfl, by omega, hc, fun q hq h => ?_, fs⟩
        by_cases e : q = j
        · subst e
          simp only [h, Bool.true_and, Bool.or_eq_true, decide_eq_true_eq, Int.toNat_natCast] at g
          show (l0.getD q zz3).2.1 ≤ _
          omega
        · exact mx q (by omega) h
theorem qd1 (y : Cell) (l : List Cell) : qaa y l l.length (deep l y) := qd0 y l l 0 (-1) rfl (Nat.zero_le _) (Or.inl ⟨rfl, fun q hq => by omega⟩)
structure Two (r : Int) (a c : List Cell) : Prop where
  l : okp 0 a = true
  m : okp 0 c = true
  e : endp 0 a = endp 0 c
theorem qke {r : Int} {l m : List Cell} (T : Two r l m) {i : Nat} (hi : i < l.length) (hx : l.getD i zz3 ∉ m) : (∃ y ∈ m, cov y (l.getD i zz3) = true) ∨ ∃ y ∈ m, y ≠ l.getD i zz3 ∧ cov (l.getD i zz3) y = true := by
  have ix := qkl T.l hi
  have wx := qdy ix
  have rx := qkm T.l hi
  obtain ⟨k, hk, h1, h2⟩ := qki T.m (q := cst (l.getD i zz3)) rx.1 (by have := T.e; omega)
  have iy := qkl T.m hk
  have my := qgy hk zz3
  by_cases g : (m.getD k zz3).2.1 ≤ (l.getD i zz3).2.1
  · exact Or.inl ⟨_, my, (qdv iy ix).2 ⟨h1, h2, g⟩⟩
  · refine Or.inr ⟨_, my, fun e => hx (e ▸ my), ?_⟩
    have d := qd4 ix iy (p := cst (l.getD i zz3)) (Int.le_refl _) (by omega) h1 h2 (by omega)
    exact (qdv ix iy).2 ⟨d.1, by have := qdy iy; omega, by omega⟩
theorem qkd {r : Int} {l m : List Cell} (T : Two r l m) {i : Nat} (hi : i < l.length) (hx : l.getD i zz3 ∉ m) {y y' : Cell} (hy : y ∈ m) (hy' : y' ∈ m) (h : cov y (l.getD i zz3) = true) (h' : cov (l.getD i zz3) y' = true) : False := by
  have ix := qkl T.l hi
  obtain ⟨a, ha, rfl⟩ := qjx hy
  obtain ⟨b, hb, rfl⟩ := qjx hy'
  have ia := qkl T.m ha; have ib := qkl T.m hb
  have wx := qdy ix; have wa := qdy ia; have wb := qdy ib
  have c1 := (qdv ia ix).1 h
  have c2 := (qdv ix ib).1 h'
  have d1 := qd4 ia ix c1.1 c1.2.1 (Int.le_refl _) (by omega) c1.2.2
  have d2 := qd4 ix ib c2.1 c2.2.1 (Int.le_refl _) (by omega) c2.2.2
  have e := qkq T.m ha hb (q := cst (m.getD b zz3)) (by omega) (by omega) (Int.le_refl _) (by omega)
  subst e
  exact hx (qmj ia ix (by omega) (by omega) ▸ hy)
theorem qmy {r : Int} {l m : List Cell} (T : Two r l m) {i : Nat} (hi : i < l.length) (hx : l.getD i zz3 ∉ m) {y : Cell} (hy : y ∈ m) (h : cov (l.getD i zz3) y = true) : (l.getD i zz3).2.1 < 4 ∧ ∀ (k : Nat) (q : Int), k < m.length → cst (m.getD k zz3) ≤ q → q < cst (m.getD k zz3) + cwd (m.getD k zz3) → cst (l.getD i zz3) ≤ q → q < cst (l.getD i zz3) + cwd (l.getD i zz3) → (l.getD i zz3).2.1 < (m.getD k zz3).2.1 := by
  have ix := qkl T.l hi
  obtain ⟨b, hb, rfl⟩ := qjx hy
  have ib := qkl T.m hb
  have c := (qdv ix ib).1 h
  have ne : (l.getD i zz3).2.1 ≠ (m.getD b zz3).2.1 := fun e => by
    have wx := qdy ix
    have d := qd4 ib ix (p := cst (m.getD b zz3)) (Int.le_refl _) (by have := qdy ib; omega) c.1 c.2.1 (by omega)
    exact hx (qmj ix ib (by omega) e ▸ hy)
  have lb := (qg3.1 ib).2.1
  refine ⟨by omega, fun k q hk h1 h2 h3 h4 => ?_⟩
  have ik := qkl T.m hk
  by_cases g : (l.getD i zz3).2.1 < (m.getD k zz3).2.1
  · exact g
  · exfalso
    have d := qd4 ik ix h1 h2 h3 h4 (by omega)
    exact qkd T hi hx (qgy hk zz3) hy ((qdv ik ix).2 ⟨d.1, by have := qdy ix; omega, by omega⟩) h
set_option maxHeartbeats 1000000 in
theorem qd2 {r : Int} {l m : List Cell} (T : Two r l m) {i : Nat} (hi : i < l.length) (hx : l.getD i zz3 ∉ m) {y : Cell} (hy : y ∈ m) (h : cov y (l.getD i zz3) = true) :
    ∃ j : Nat, deep l y = (j : Int) ∧ j + 1 < l.length ∧ sib (l.getD j zz3) (l.getD (j + 1) zz3) = true ∧ y.2.1 < (l.getD j zz3).2.1 ∧ cst y ≤ cst (l.getD j zz3) ∧ cst (l.getD j zz3) + 2 * cwd (l.getD j zz3) ≤ cst y + cwd y := by
  have ix := qkl T.l hi
  obtain ⟨a, ha, rfl⟩ := qjx hy
  have iy := qkl T.m ha
  have c := (qdv iy ix).1 h
  have ry := qkm T.m ha
  have ne : (m.getD a zz3).2.1 < (l.getD i zz3).2.1 := by
    by_cases e : (m.getD a zz3).2.1 = (l.getD i zz3).2.1
    · exfalso
      have wx := qdy ix
      have d := qd4 ix iy (p := cst (l.getD i zz3)) (Int.le_refl _) (by omega) c.1 c.2.1 (by omega)
      exact hx (qmj iy ix (by omega) e ▸ hy)
    · omega
  rcases qd1 (m.getD a zz3) l with ⟨_, n⟩ | ⟨j, e, hj, hc, mx, fs⟩
  · rw [n i hi] at h; cases h
  refine ⟨j, e, ?_⟩
  have ij := qkl T.l hj
  have cj := (qdv iy ij).1 hc
  have dj := qd4 iy ij cj.1 cj.2.1 (Int.le_refl _) (by have := qdy ij; omega) cj.2.2
  have lj : (m.getD a zz3).2.1 < (l.getD j zz3).2.1 := by have := mx i hi h; unfold qic at this; omega
  -- the leaf that covers a point qn4 y is no deeper than leaf j
  have near : ∀ q : Int, cst (m.getD a zz3) ≤ q → q < cst (m.getD a zz3) + cwd (m.getD a zz3) → ∃ z, z < l.length ∧ cst (l.getD z zz3) ≤ q ∧ q < cst (l.getD z zz3) + cwd (l.getD z zz3) ∧ (cov (m.getD a zz3) (l.getD z zz3) = true → qic l z ≤ qic l j) ∧ ((m.getD a zz3).2.1 ≤ (l.getD z zz3).2.1 → cov (m.getD a zz3) (l.getD z zz3) = true) := by
    intro q h1 h2
    obtain ⟨z, hz, z1, z2⟩ := qki T.l (q := q) (by omega) (by have := T.e; omega)
    refine ⟨z, hz, z1, z2, mx z hz, fun hl => ?_⟩
    have iz := qkl T.l hz
    have d := qd4 iy iz h1 h2 z1 z2 hl
    exact (qdv iy iz).2 ⟨d.1, by have := qdy iz; omega, hl⟩
  generalize hX : l.getD j zz3 = X at *
  generalize hY : m.getD a zz3 = Y at *
  obtain ⟨rx, lx, kx⟩ := X
  obtain ⟨sy, ly, ky⟩ := Y
  have ij' : (0 ≤ rx ∧ rx ≤ 7) ∧ (0 ≤ lx ∧ lx ≤ 4) ∧ 0 ≤ kx ∧ kx < pow2 lx := qg3.1 ij
  have iy' : (0 ≤ sy ∧ sy ≤ 7) ∧ (0 ≤ ly ∧ ly ≤ 4) ∧ 0 ≤ ky ∧ ky < pow2 ly := qg3.1 iy
  have eX : cst (rx, lx, kx) = rx * 16 + kx * qn0 lx := qm1 ij
  have eY : cst (sy, ly, ky) = sy * 16 + ky * qn0 ly := qm1 iy
  have levX : qic l j = lx := by show (l.getD j zz3).2.1 = lx; rw [hX]
  change ly < lx at lj
  have even : kx % 2 = 0 := by
    by_cases ev : kx % 2 = 0
    · exact ev
    · exfalso
      have is : idOk rx lx (kx - 1) = true := qg3.2 ⟨ij'.1, ij'.2.1, by omega, by omega⟩
      have eS : cst (rx, lx, kx - 1) = rx * 16 + (kx - 1) * qn0 lx := qm1 is
      have wX : 1 ≤ qn0 lx := qdy (x := (rx, lx, kx)) ij
      have mulS : (kx - 1) * qn0 lx = kx * qn0 lx - qn0 lx := by rw [Int.sub_mul, Int.one_mul]
      have inS : cst (sy, ly, ky) ≤ cst (rx, lx, kx - 1) ∧ cst (rx, lx, kx - 1) < cst (sy, ly, ky) + qn0 ly := by
        have h1 := cj.1; have h2 := cj.2.1
        change cst (rx, lx, kx) < cst (sy, ly, ky) + qn0 ly at h2
        refine ⟨?_, by omega⟩
        rw [eS, eY] at *
        rw [eX] at h1 h2
        clear near fs mx eS eY eX dj mulS
        rcases lev (qg5.2 ij'.2.1) with rfl | rfl | rfl | rfl | rfl <;> rcases lev (qg5.2 iy'.2.1) with rfl | rfl | rfl | rfl | rfl <;> simp only [w0, w1_, w2_, w3_, w4_, p20, p21, p22, p23, p24] at * <;> omega
      obtain ⟨z, hz, z1, z2, zm, zc⟩ := near _ inS.1 inS.2
      have iz := qkl T.l hz
      by_cases g : lx ≤ (l.getD z zz3).2.1
      · -- the sibling, or deeper in it
        have hzc := zc (by show ly ≤ _; omega)
        have lz := zm hzc
        rw [levX] at lz
        have lz' : (l.getD z zz3).2.1 = lx := by unfold qic at lz; omega
        have zj : z < j := by
          by_cases h : z < j
          · exact h
          · exfalso
            by_cases h' : z = j
            · subst h'; rw [hX] at z1 z2; omega
            · have := qkn T.l (i := j) (j := z) (by omega) hz
              rw [hX] at this
              have : cst (rx, lx, kx) + qn0 lx ≤ cst (l.getD z zz3) := this
              omega
        have := fs z zj hzc
        rw [levX] at this
        unfold qic at this
        omega
      · -- it contains the parent
        have d := qd4 (b := (rx, lx, kx - 1)) iz is (p := cst (rx, lx, kx - 1)) z1 z2 (Int.le_refl _) (by show cst (rx, lx, kx - 1) < cst (rx, lx, kx - 1) + qn0 lx; omega) (by show (l.getD z zz3).2.1 ≤ lx; omega)
        have inJ : cst (l.getD z zz3) ≤ cst (rx, lx, kx) ∧ cst (rx, lx, kx) < cst (l.getD z zz3) + cwd (l.getD z zz3) := by
          generalize l.getD z zz3 = Z at iz z1 z2 g d ⊢
          obtain ⟨rz, vz, kz⟩ := Z
          have iz' : (0 ≤ rz ∧ rz ≤ 7) ∧ (0 ≤ vz ∧ vz ≤ 4) ∧ 0 ≤ kz ∧ kz < pow2 vz := qg3.1 iz
          have eZ : cst (rz, vz, kz) = rz * 16 + kz * qn0 vz := qm1 iz
          change ¬ lx ≤ vz at g
          change cst (rz, vz, kz) ≤ cst (rx, lx, kx - 1) at z1
          change cst (rx, lx, kx - 1) < cst (rz, vz, kz) + qn0 vz at z2
          show cst (rz, vz, kz) ≤ cst (rx, lx, kx) ∧ cst (rx, lx, kx) < cst (rz, vz, kz) + qn0 vz
          rw [eZ, eS] at *
          rw [eX]
          clear near fs mx eS eY eX dj d inS mulS eZ cj zm zc
          rcases lev (qg5.2 ij'.2.1) with rfl | rfl | rfl | rfl | rfl <;> rcases lev (qg5.2 iz'.2.1) with rfl | rfl | rfl | rfl | rfl <;> simp only [w0, w1_, w2_, w3_, w4_, p20, p21, p22, p23, p24] at * <;> omega
        have ez := qkq T.l hz hj (q := cst (rx, lx, kx)) inJ.1 inJ.2 (by rw [hX]; exact Int.le_refl _) (by rw [hX]; show cst (rx, lx, kx) < cst (rx, lx, kx) + qn0 lx; omega)
        subst ez
        rw [hX] at g
        exact g (Int.le_refl _)
  -- the right sibling
  have is : idOk rx lx (kx + 1) = true := by
    refine qg3.2 ⟨ij'.1, ij'.2.1, by omega, ?_⟩
    have a := ij'.2.2
    clear near fs mx eX eY dj cj
    rcases lev (qg5.2 ij'.2.1) with rfl | rfl | rfl | rfl | rfl <;> rcases lev (qg5.2 iy'.2.1) with rfl | rfl | rfl | rfl | rfl <;> simp only [p20, p21, p22, p23, p24] at * <;> omega
  have wX : 1 ≤ qn0 lx := qdy (x := (rx, lx, kx)) ij
  have eS : cst (rx, lx, kx + 1) = rx * 16 + (kx + 1) * qn0 lx := qm1 is
  have mulS : (kx + 1) * qn0 lx = kx * qn0 lx + qn0 lx := by rw [Int.add_mul, Int.one_mul]
  have inS : cst (rx, lx, kx) + 2 * qn0 lx ≤ cst (sy, ly, ky) + qn0 ly := by
    have h1 := cj.1; have h2 := cj.2.1
    change cst (rx, lx, kx) < cst (sy, ly, ky) + qn0 ly at h2
    rw [eX, eY] at *
    clear near fs mx eS eX eY dj mulS is cj
    rcases lev (qg5.2 ij'.2.1) with rfl | rfl | rfl | rfl | rfl <;> rcases lev (qg5.2 iy'.2.1) with rfl | rfl | rfl | rfl | rfl <;> simp only [w0, w1_, w2_, w3_, w4_, p20, p21, p22, p23, p24] at * <;> omega
  have yl := cj.1
  obtain ⟨z, hz, z1, z2, zm, zc⟩ := near (cst (rx, lx, kx + 1)) (by omega) (by show cst (rx, lx, kx + 1) < cst (sy, ly, ky) + qn0 ly; omega)
  have iz := qkl T.l hz
  have hj1 : j + 1 < l.length := by
    have zj : j < z := by
      by_cases h : j < z
      · exact h
      · exfalso
        by_cases h' : z = j
        · subst h'
          rw [hX] at z2
          change cst (rx, lx, kx + 1) < cst (rx, lx, kx) + qn0 lx at z2
          omega
        · have := qkn T.l (i := z) (j := j) (by omega) hj
          rw [hX] at this
          omega
    omega
  have st1 := qkp T.l hj1
  rw [hX] at st1
  change cst (l.getD (j + 1) zz3) = cst (rx, lx, kx) + qn0 lx at st1
  have iz1 := qkl T.l hj1
  have w1 := qdy iz1
  have ez := qkq T.l hz hj1 (q := cst (rx, lx, kx + 1)) z1 z2 (by omega) (by omega)
  subst ez
  have lz : (l.getD (j + 1) zz3).2.1 = lx := by
    by_cases g : lx ≤ (l.getD (j + 1) zz3).2.1
    · have := zm (zc (by show ly ≤ _; omega))
      rw [levX] at this
      unfold qic at this
      omega
    · exfalso
      generalize l.getD (j + 1) zz3 = Z at iz1 g st1
      obtain ⟨rz, vz, kz⟩ := Z
      have iz' : (0 ≤ rz ∧ rz ≤ 7) ∧ (0 ≤ vz ∧ vz ≤ 4) ∧ 0 ≤ kz ∧ kz < pow2 vz := qg3.1 iz1
      have eZ : cst (rz, vz, kz) = rz * 16 + kz * qn0 vz := qm1 iz1
      change ¬ lx ≤ vz at g
      rw [eZ, eX] at st1
      clear near fs mx eS eX eY dj mulS is cj eZ zm zc z1 z2 inS yl
      rcases lev (qg5.2 ij'.2.1) with rfl | rfl | rfl | rfl | rfl <;> rcases lev (qg5.2 iz'.2.1) with rfl | rfl | rfl | rfl | rfl <;> simp only [w0, w1_, w2_, w3_, w4_, p20, p21, p22, p23, p24] at * <;> omega
  have eq1 := qmj (b := (rx, lx, kx + 1)) iz1 is (by rw [st1]; omega) lz
  refine ⟨hj1, ?_, lj, yl, inS⟩
  rw [eq1]
  simp only [sib, Bool.and_eq_true, decide_eq_true_eq]
  exact ⟨ij, is, trivial, trivial, even, trivial⟩
end Go.Proofs.YtfgccfajhedgdaaGreat
end
section
namespace Go.Proofs.YtfgccfajhedgdaaGreat
open Go.Ev
def lvp : List Cell → Int → Int
  | [], q => 0
  | x :: l, q => if q < cst x + cwd x then x.2.1 else lvp l q
theorem qgt : ∀ (l : List Cell) (p : Int), okp p l = true → p ≤ endp p l
  | [], p, _ => Int.le_refl p
  | y :: l, p, h => by rw [qkj] at h; rw [qgs]; have := qgt l _ h.2.2; have := qn2 y.2.1; omega
theorem qih : ∀ {l : List Cell} {p q : Int} {j : Nat}, okp p l = true → j < l.length → cst (l.getD j zz3) ≤ q → q < cst (l.getD j zz3) + cwd (l.getD j zz3) → lvp l q = (l.getD j zz3).2.1
  | [], p, q, j, h, hj, h1, h2 => by simp at hj
  | x :: l, p, q, 0, h, hj, h1, h2 => by unfold lvp; rw [if_pos (show q < cst x + cwd x from h2)]; rfl
  | x :: l, p, q, j + 1, h, hj, h1, h2 => by
    have a := qkn h (i := 0) (j := j + 1) (by omega) hj
    rw [qkj] at h
    unfold lvp
    simp only [List.getD_cons_succ, List.getD_cons_zero] at *
    rw [if_neg (by omega)]
    exact qih h.2.2 (by simpa using hj) h1 h2
theorem qik : ∀ (A X : List Cell) (p q : Int), okp p A = true → p ≤ q → q < endp p A → lvp (A ++ X) q = lvp A q
  | [], X, p, q, h, h1, h2 => by have : endp p [] = p := rfl; omega
  | x :: A, X, p, q, h, h1, h2 => by
    rw [qkj] at h; rw [qgs] at h2
    rw [List.cons_append, lvp, lvp]
    by_cases g : q < cst x + cwd x
    · rw [if_pos g, if_pos g]
    · rw [if_neg g, if_neg g]
      have g' : ¬ q < qmz x.1 x.2.1 x.2.2 + qn0 x.2.1 := g
      exact qik A X _ q h.2.2 (by omega) h2
theorem qii : ∀ (A X : List Cell) (p q : Int), okp p A = true → endp p A ≤ q → lvp (A ++ X) q = lvp X q
  | [], X, p, q, h, h1 => rfl
  | x :: A, X, p, q, h, h1 => by
    rw [qkj] at h; rw [qgs] at h1
    have := qgt A _ h.2.2
    have g : ¬ q < cst x + cwd x := by show ¬ q < qmz x.1 x.2.1 x.2.2 + qn0 x.2.1; omega
    rw [List.cons_append, lvp, if_neg g]
    exact qii A X _ q h.2.2 h1
theorem qim {l : List Cell} (h : okp 0 l = true) {i : Nat} (hi : i < l.length) (hl : (l.getD i zz3).2.1 < 4) {q : Int} (h0 : 0 ≤ q) : lvp (qmv l i) q = if cst (l.getD i zz3) ≤ q ∧ q < cst (l.getD i zz3) + cwd (l.getD i zz3) then (l.getD i zz3).2.1 + 1 else lvp l q := by
  have hs := qko h hi
  have e := qdx hi zz3
  have h1 := h
  rw [e, qkh, Bool.and_eq_true] at h1
  have c := qdl (qkl h hi) hl
  have el : lvp l q = lvp (l.take i ++ l.getD i zz3 :: l.drop (i + 1)) q := by rw [← e]
  rw [el]
  unfold qmv
  by_cases g : q < endp 0 (l.take i)
  · rw [qik _ _ 0 q h1.1 h0 g, qik _ _ 0 q h1.1 h0 g, if_neg (by omega)]
  · rw [qii _ _ 0 q h1.1 (by omega), qii _ _ 0 q h1.1 (by omega)]
    simp only [lvp]
    have c0 : cst (ch0 (l.getD i zz3)) = cst (l.getD i zz3) := c.2.2.1
    have c1 : cst (ch1 (l.getD i zz3)) = cst (l.getD i zz3) + qn0 ((l.getD i zz3).2.1 + 1) := c.2.2.2.1
    have d0 : cwd (ch0 (l.getD i zz3)) = qn0 ((l.getD i zz3).2.1 + 1) := rfl
    have d1 : cwd (ch1 (l.getD i zz3)) = qn0 ((l.getD i zz3).2.1 + 1) := rfl
    have d2 : cwd (l.getD i zz3) = qn0 (l.getD i zz3).2.1 := rfl
    have cw := c.2.2.2.2
    have wl := qn2 ((l.getD i zz3).2.1 + 1)
    by_cases g1 : q < cst (l.getD i zz3) + cwd (l.getD i zz3)
    · rw [if_pos (show cst (l.getD i zz3) ≤ q ∧ q < cst (l.getD i zz3) + cwd (l.getD i zz3) by omega)]
      by_cases g2 : q < cst (ch0 (l.getD i zz3)) + cwd (ch0 (l.getD i zz3))
      · rw [if_pos g2]
      · rw [if_neg g2, if_pos (by omega)]
    · rw [if_neg (by omega), if_neg (by omega), if_neg (by omega), if_neg (by omega)]
theorem qil {l : List Cell} (h : okp 0 l = true) {j : Nat} (hj : j + 1 < l.length) (hs : sib (l.getD j zz3) (l.getD (j + 1) zz3) = true) {q : Int} (h0 : 0 ≤ q) : lvp (qjy l j) q = if cst (l.getD j zz3) ≤ q ∧ q < cst (l.getD j zz3) + 2 * cwd (l.getD j zz3) then (l.getD j zz3).2.1 - 1 else lvp l q := by
  have hst := qko h (show j < l.length by omega)
  have st1 := qkp h hj
  have e := qdx (show j < l.length by omega) zz3
  rw [qd3 hj zz3] at e
  have h1 := h
  rw [e, qkh, Bool.and_eq_true] at h1
  simp only [sib, Bool.and_eq_true, decide_eq_true_eq] at hs
  obtain ⟨s1, s2, s3, s4, s5, s6⟩ := hs
  have s2' := s2
  rw [← s3, ← s4, s6] at s2'
  have c := qkt s1 s2' s5
  have el : lvp l q = lvp (l.take j ++ l.getD j zz3 :: l.getD (j + 1) zz3 :: l.drop (j + 1 + 1)) q := by rw [← e]
  rw [el]
  unfold qjy
  rw [show j + 2 = j + 1 + 1 from rfl]
  by_cases g : q < endp 0 (l.take j)
  · rw [qik _ _ 0 q h1.1 h0 g, qik _ _ 0 q h1.1 h0 g, if_neg (by omega)]
  · rw [qii _ _ 0 q h1.1 (by omega), qii _ _ 0 q h1.1 (by omega)]
    simp only [lvp]
    have cp : cst (par (l.getD j zz3)) = cst (l.getD j zz3) := c.2.2.1
    have dp : cwd (par (l.getD j zz3)) = qn0 ((l.getD j zz3).2.1 - 1) := rfl
    have d2 : cwd (l.getD j zz3) = qn0 (l.getD j zz3).2.1 := rfl
    have d3 : cwd (l.getD (j + 1) zz3) = qn0 (l.getD j zz3).2.1 := by show qn0 (l.getD (j + 1) zz3).2.1 = _; rw [s4]
    have cw := c.2.2.2.2
    have wl := qn2 (l.getD j zz3).2.1
    by_cases g1 : q < cst (l.getD j zz3) + 2 * cwd (l.getD j zz3)
    · rw [if_pos (show q < cst (par (l.getD j zz3)) + cwd (par (l.getD j zz3)) by omega), if_pos (by omega)]
    · rw [if_neg (by omega), if_neg (by omega), if_neg (by omega), if_neg (by omega)]
def far (a b : Int) : Int := max (a - b) (b - a)
def muF (l m : List Cell) (n : Nat) : Int := far (lvp l n) (lvp m n)
def mu (r : Int) (l m : List Cell) : Int := qm8 (muF l m) (16 * r).toNat
theorem qna {f g : Nat → Int} : ∀ (n i : Nat), (∀ j, j < n → f j ≤ g j) → i < n → f i < g i → qm8 f n < qm8 g n
  | 0, i, h, hi, hl => by omega
  | n + 1, i, h, hi, hl => by
    have a := qm9 n fun j hj => h j (by omega)
    have b := h n (by omega)
    simp only [qm8]
    by_cases e : i = n
    · subst e; omega
    · have := qna n i (fun j hj => h j (by omega)) (by omega) hl; omega
def rmS (m : List Cell) (s : S3) : S3 := if qkr m (s.1.getD (qm3 m s.1).toNat zz3) < 0 then rfS s (qm3 m s.1).toNat else cmS s (deep s.1 (m.getD (qkr m (s.1.getD (qm3 m s.1).toNat zz3)).toNat zz3)).toNat
def rmN (m : List Cell) : Nat → S3 → S3
  | 0, s => s
  | n + 1, s => if qm3 m s.1 < 0 then s else rmN m n (rmS m s)
def qn4 (m : List Cell) (x : Cell) : Bool := m.any fun y => decide (y ≠ x) && cov x y
theorem qn5 (m : List Cell) (x : Cell) : qn4 m x = true ↔ ∃ y ∈ m, y ≠ x ∧ cov x y = true := by
  unfold qn4
  rw [List.any_eq_true]
  refine ⟨fun ⟨y, hy, e⟩ => ?_, fun ⟨y, hy, e1, e2⟩ => ⟨y, hy, ?_⟩⟩
  · simp only [Bool.and_eq_true, decide_eq_true_eq] at e; exact ⟨y, hy, e.1, e.2⟩
  · simp only [Bool.and_eq_true, decide_eq_true_eq]; exact ⟨e1, e2⟩
theorem qnl {r : Int} {s : S3} {b : List Int} (U : StU r s b) {m : List Cell} (hm : qj1 r 0 m = true) : Two r s.1 m := by
  have a := qj3.1 U.mesh; have c := qj3.1 hm
  exact ⟨a.1, c.1, by rw [a.2.2, c.2.2]⟩
structure RmC (r : Int) (m : List Cell) (s : S3) (i : Nat) : Prop where
  e : qm3 m s.1 = (i : Int)
  hi : i < s.1.length
  nm : s.1.getD i zz3 ∉ m
theorem qli {r : Int} {s : S3} {b : List Int} (U : StU r s b) {m : List Cell} (hm : qj1 r 0 m = true) (h : ¬ qm3 m s.1 < 0) : ∃ i : Nat, RmC r m s i ∧
    ((qkr m (s.1.getD i zz3) = -1 ∧ qn4 m (s.1.getD i zz3) = true ∧ qic s.1 i < 4 ∧ rmS m s = rfS s i) ∨
     ∃ k j : Nat, qkr m (s.1.getD i zz3) = (k : Int) ∧ k < m.length ∧ cov (m.getD k zz3) (s.1.getD i zz3) = true ∧ qn4 m (s.1.getD i zz3) = false ∧ deep s.1 (m.getD k zz3) = (j : Int) ∧ j + 1 < s.1.length ∧ sib (s.1.getD j zz3) (s.1.getD (j + 1) zz3) = true ∧ rmS m s = cmS s j) := by
  have T := qnl U hm
  rcases qm4 m s.1 with ⟨e, _⟩ | ⟨i, hi, e, nm⟩
  · rw [e] at h; omega
  refine ⟨i, ⟨e, hi, nm⟩, ?_⟩
  rcases qgw (fun y => cov y (s.1.getD i zz3)) m 0 with ⟨eo, no⟩ | ⟨k, hk, eo, co⟩
  · left
    have eo' : qkr m (s.1.getD i zz3) = -1 := eo
    have w : qn4 m (s.1.getD i zz3) = true := by
      rw [qn5]
      rcases qke T hi nm with ⟨y, hy, c⟩ | ⟨y, hy, c⟩
      · rw [no y hy] at c; cases c
      · exact ⟨y, hy, c⟩
    obtain ⟨y, hy, ne, c⟩ := (qn5 _ _).1 w
    refine ⟨eo', w, (qmy T hi nm hy c).1, ?_⟩
    unfold rmS
    rw [e, Int.toNat_natCast, eo', if_pos (by omega)]
  · right
    rw [Nat.zero_add] at eo
    have eo' : qkr m (s.1.getD i zz3) = (k : Int) := eo
    obtain ⟨j, ej, hj, sj, _⟩ := qd2 T hi nm (qgy hk zz3) co
    refine ⟨k, j, eo', hk, co, ?_, ej, hj, sj, ?_⟩
    · rw [← Bool.not_eq_true, qn5]
      rintro ⟨y, hy, ne, c⟩
      exact qkd T hi nm (qgy hk zz3) hy co c
    · unfold rmS
      rw [e, Int.toNat_natCast, eo', if_neg (by omega), Int.toNat_natCast, ej, Int.toNat_natCast]
theorem rm_V {r : Int} {s : S3} {b : List Int} {M S : Int} (V : StV r s b M S) {m : List Cell} (hm : qj1 r 0 m = true) (h : ¬ qm3 m s.1 < 0) : StV r (rmS m s) b M S := by
  obtain ⟨i, C, ⟨_, _, hl, e⟩ | ⟨k, j, _, _, _, _, _, hj, sj, e⟩⟩ := qli V.u hm h
  · rw [e]; exact rf_V V C.hi hl
  · rw [e]; exact cm_V V hj sj
set_option maxHeartbeats 1000000 in
theorem qlj {r : Int} {s : S3} {b : List Int} (U : StU r s b) {m : List Cell} (hm : qj1 r 0 m = true) (h : ¬ qm3 m s.1 < 0) : mu r (rmS m s).1 m < mu r s.1 m := by
  have T := qnl U hm
  have en := (qj3.1 U.mesh).2.2
  obtain ⟨i, C, ⟨_, w, hl, e⟩ | ⟨k, j, _, hk, ck, _, ej, hj, sj, e⟩⟩ := qli U hm h
  · rw [e]
    obtain ⟨y, hy, ne, c⟩ := (qn5 _ _).1 w
    have so := qmy T C.hi C.nm hy c
    have ix := qkl T.l C.hi
    have wx := qdy ix
    have rx := qkm T.l C.hi
    have key : ∀ q : Nat, q < (16 * r).toNat → cst (s.1.getD i zz3) ≤ q → (q : Int) < cst (s.1.getD i zz3) + cwd (s.1.getD i zz3) → muF (qmv s.1 i) m q < muF s.1 m q := by
      intro q hq h1 h2
      obtain ⟨k, hk, k1, k2⟩ := qki T.m (q := (q : Int)) (by omega) (by rw [← T.e, en]; omega)
      have d := so.2 k q hk k1 k2 h1 h2
      unfold muF
      rw [qim T.l C.hi hl (by omega), if_pos ⟨h1, h2⟩, qih T.l C.hi h1 h2, qih T.m hk k1 k2]
      unfold far; omega
    refine qna _ (cst (s.1.getD i zz3)).toNat (fun q hq => ?_) (by omega) (key _ (by omega) (by omega) (by omega))
    by_cases g : cst (s.1.getD i zz3) ≤ q ∧ (q : Int) < cst (s.1.getD i zz3) + cwd (s.1.getD i zz3)
    · exact Int.le_of_lt (key q hq g.1 g.2)
    · show far (lvp (qmv s.1 i) q) _ ≤ far (lvp s.1 q) _
      rw [qim T.l C.hi hl (by omega), if_neg g]; exact Int.le_refl _
  · rw [e]
    obtain ⟨j', ej', hj', sj', dl, d1, d2⟩ := qd2 T C.hi C.nm (qgy hk zz3) ck
    rw [ej] at ej'
    have : j = j' := by omega
    subst this
    have ix := qkl T.l (show j < s.1.length by omega)
    have wx := qdy ix
    have rx := qkm T.l (show j < s.1.length by omega)
    have ry := qkm T.m hk
    have em := (qj3.1 hm).2.2
    have st1 := qkp T.l hj
    have w1 : cwd (s.1.getD (j + 1) zz3) = cwd (s.1.getD j zz3) := by
      simp only [sib, Bool.and_eq_true, decide_eq_true_eq] at sj
      show qn0 (s.1.getD (j + 1) zz3).2.1 = qn0 (s.1.getD j zz3).2.1
      rw [sj.2.2.2.1]
    have l1 : (s.1.getD (j + 1) zz3).2.1 = (s.1.getD j zz3).2.1 := by
      simp only [sib, Bool.and_eq_true, decide_eq_true_eq] at sj
      exact sj.2.2.2.1.symm
    have key : ∀ q : Nat, q < (16 * r).toNat → cst (s.1.getD j zz3) ≤ q → (q : Int) < cst (s.1.getD j zz3) + 2 * cwd (s.1.getD j zz3) → muF (qjy s.1 j) m q < muF s.1 m q := by
      intro q hq h1 h2
      have lq : lvp s.1 q = (s.1.getD j zz3).2.1 := by
        by_cases g : (q : Int) < cst (s.1.getD j zz3) + cwd (s.1.getD j zz3)
        · exact qih T.l (by omega) h1 g
        · rw [qih T.l hj (by omega) (by omega), l1]
      unfold muF
      rw [qil T.l hj sj (by omega), if_pos ⟨h1, h2⟩, lq, qih T.m hk (by omega) (by omega)]
      unfold far; omega
    refine qna _ (cst (s.1.getD j zz3)).toNat (fun q hq => ?_) (by omega) (key _ (by omega) (by omega) (by omega))
    by_cases g : cst (s.1.getD j zz3) ≤ q ∧ (q : Int) < cst (s.1.getD j zz3) + 2 * cwd (s.1.getD j zz3)
    · exact Int.le_of_lt (key q hq g.1 g.2)
    · show far (lvp (qjy s.1 j) q) _ ≤ far (lvp s.1 q) _
      rw [qil T.l hj sj (by omega), if_neg g]; exact Int.le_refl _
theorem qj9 (r : Int) (l m : List Cell) : 0 ≤ mu r l m := qnb _ fun j _ => by unfold muF far; omega
theorem qij : ∀ {l : List Cell} {p : Int} (q : Int), okp p l = true → 0 ≤ lvp l q ∧ lvp l q ≤ 4
  | [], p, q, h => by unfold lvp; omega
  | x :: l, p, q, h => by
    rw [qkj] at h
    have := (qg3.1 h.1).2.1
    unfold lvp
    split
    · exact this
    · exact qij q h.2.2
theorem qj8 {r : Int} {l m : List Cell} (T : Two r l m) (hr : 0 ≤ r ∧ r ≤ 8) : mu r l m ≤ 512 := by
  have : ∀ n : Nat, qm8 (muF l m) n ≤ 4 * n := by
    intro n
    induction n with
    | zero => simp [qm8]
    | succ n ih =>
      have a := qij (n : Int) T.l; have b := qij (n : Int) T.m
      simp only [qm8, muF, far]; omega
  have := this (16 * r).toNat
  unfold mu; omega
theorem qlg {r : Int} {b : List Int} {M S : Int} {m : List Cell} (hm : qj1 r 0 m = true) : ∀ (n : Nat) (s : S3), StV r s b M S → mu r s.1 m < n → StV r (rmN m n s) b M S ∧ qm3 m (rmN m n s).1 < 0
  | 0, s, V, h => by have := qj9 r s.1 m; omega
  | n + 1, s, V, h => by
    unfold rmN
    by_cases g : qm3 m s.1 < 0
    · rw [if_pos g]; exact ⟨V, g⟩
    · rw [if_neg g]
      exact qlg hm n _ (rm_V V hm g) (by have := qlj V.u hm g; omega)
theorem qmk : ∀ (l m : List Cell) (p : Int), okp p l = true → okp p m = true → endp p l = endp p m → (∀ x ∈ l, x ∈ m) → l = m
  | [], [], p, _, _, _, _ => rfl
  | [], y :: m, p, h1, h2, he, hs => by
    rw [qkj] at h2
    have := qgt m _ h2.2.2; have w : 1 ≤ qn0 y.2.1 := qdy h2.1
    have e : endp p [] = p := rfl
    rw [qgs] at he; omega
  | x :: l, [], p, h1, h2, he, hs => by have := hs x (by simp); cases this
  | x :: l, y :: m, p, h1, h2, he, hs => by
    have h1' := h1; have h2' := h2
    rw [qkj] at h1 h2
    rw [qgs, qgs] at he
    have wx : 1 ≤ qn0 x.2.1 := qdy h1.1; have wy : 1 ≤ qn0 y.2.1 := qdy h2.1
    have hxy : x = y := by
      rcases List.mem_cons.1 (hs x (by simp)) with e | e
      · exact e
      · have := qkk m _ h2.2.2 x e; omega
    subst hxy
    rw [qmk l m _ h1.2.2 h2.2.2 he fun z hz => by
      rcases List.mem_cons.1 (hs z (by simp [hz])) with e | e
      · have := qkk l _ h1.2.2 z hz; rw [e] at this; omega
      · exact e]
theorem qlh {r : Int} {s : S3} {b : List Int} {M S : Int} {m : List Cell} (hm : qj1 r 0 m = true) (V : StV r s b M S) (h : qm3 m s.1 < 0) : s.1 = m := by
  have T := qnl V.u hm
  rcases qm4 m s.1 with ⟨_, n⟩ | ⟨i, _, e, _⟩
  · exact qmk _ _ 0 T.l T.m T.e n
  · omega
def rmp (m : List Cell) (s : S3) : S3 := rmN m 513 s
theorem qlk {r : Int} {s : S3} {b : List Int} (F : StF r s.1 s.2.1 s.2.2 b) {m : List Cell} (hm : qj1 r 0 m = true) (hu : unb m < 0) : StF r (rmp m s).1 (rmp m s).2.1 (rmp m s).2.2 b ∧ (rmp m s).1 = m ∧ isum (rmp m s).2.1 = isum s.2.1 ∧ isum (rmp m s).2.2 = isum s.2.2 := by
  have V : StV r s b (isum s.2.1) (isum s.2.2) := ⟨F.toU, rfl, rfl⟩
  have rr := F.rr
  have := qj8 (qnl V.u hm) (by omega)
  have W := qlg hm 513 s V (by omega)
  have e := qlh hm W.1 W.2
  exact ⟨W.1.u.toF (by rw [e]; exact hu), e, W.1.m, W.1.t⟩
end Go.Proofs.YtfgccfajhedgdaaGreat
end
section
namespace Go.Proofs.YtfgccfajhedgdaaGreat
open Go.Ev
def rowN (r L : Int) : Nat → List Cell
  | 0 => []
  | n + 1 => rowN r L n ++ [(r, L, (n : Int))]
def uni (L : Int) (w : Nat) : Nat → List Cell
  | 0 => []
  | n + 1 => uni L w n ++ rowN (n : Int) L w
theorem qll (r L : Int) : ∀ n, (rowN r L n).length = n
  | 0 => rfl
  | n + 1 => by simp [rowN, qll r L n]
theorem qns (L : Int) (w : Nat) : ∀ n, (uni L w n).length = n * w
  | 0 => by simp [uni]
  | n + 1 => by rw [uni, List.length_append, qns L w n, qll, Nat.succ_mul]
theorem qnr : ((List.range 8).all fun r => (List.range 5).all fun L => qj1 ((r + 1 : Nat) : Int) 0 (uni (L : Int) (2 ^ L) (r + 1)) && decide (unb (uni (L : Int) (2 ^ L) (r + 1)) < 0)) = true := by decide +kernel
theorem qnt {r L : Nat} (hr : 1 ≤ r ∧ r ≤ 8) (hL : L ≤ 4) : qj1 (r : Int) 0 (uni (L : Int) (2 ^ L) r) = true ∧ unb (uni (L : Int) (2 ^ L) r) < 0 := by
  have h := qnr
  rw [List.all_eq_true] at h
  have h1 := h (r - 1) (List.mem_range.2 (by omega))
  rw [List.all_eq_true] at h1
  have h2 := h1 L (List.mem_range.2 (by omega))
  rw [show r - 1 + 1 = r by omega, Bool.and_eq_true, decide_eq_true_eq] at h2
  exact h2
end Go.Proofs.YtfgccfajhedgdaaGreat
end
section
namespace Go.Proofs.YtfgccfajhedgdaaGreat
open Go.Ev
def qlm (x0 x1 x2 : Int) (z3 : Bool) (l4 : List (Int × Int × Int)) (x5 : Int) (z6 : Bool) (l7 : List (Int × Int × Int)) (x8 : Int) : St := ⟨fill 41 [(1, (.int .i64 (x0))), (4, (.ptr 1 (0) (0))), (6, (.ptr 3 (0) (0))), (20, (.int .i64 (x1))), (21, (.int .i64 (x2)))], [], [(.arr true (z3) (.r3 (l4))), (.box true [(.int .i64 (x5)), (.sl 0 none)]), (.arr true (z6) (.r3 (l7))), (.box true [(.int .i64 (x8)), (.sl 2 none)])]⟩
def qln (x0 x1 x2 x3 x4 x5 : Int) (z6 : Bool) (l7 : List (Int × Int × Int)) (x8 : Int) (z9 : Bool) (l10 : List (Int × Int × Int)) (x11 : Int) : St := ⟨fill 41 [(1, (.int .i64 (x0))), (4, (.ptr 1 (0) (0))), (6, (.ptr 3 (0) (0))), (7, (.int .i64 (x1))), (20, (.int .i64 (x2))), (21, (.int .i64 (x3))), (25, (.int .i64 (x4))), (26, (.int .i64 (x5)))], [], [(.arr true (z6) (.r3 (l7))), (.box true [(.int .i64 (x8)), (.sl 0 none)]), (.arr true (z9) (.r3 (l10))), (.box true [(.int .i64 (x11)), (.sl 2 none)])]⟩
theorem qd9 (k : Nat) (a b : Int) : go (k + 1) impl_MeshNew [(.int .i64 (a)), (.int .i64 (b))] =
 (go k impl_within [(.int .i64 (a)), (.int .i64 ((1 : Int))), (.int .i64 ((8 : Int)))]).bind fun r0 =>
 cond (!bit (nth r0 0))
 (some [(.agg [(.int .i64 (0 : Int)), (.arr true (true) (.r3 ([])))]), (.bool (false))])
 ((go k impl_isLevel [(.int .i64 (b))]).bind fun r1 =>
 cond (!bit (nth r1 0))
 (some [(.agg [(.int .i64 (0 : Int)), (.arr true (true) (.r3 ([])))]), (.bool (false))])
 (lp k impl_MeshNew [] [] 5 k (qlm b a (0 : Int) true ([]) (0 : Int) true ([]) a))) := by kernel_rfl
theorem qhf (k n : Nat) (fu : List (Nat × Nat)) (x0 x1 x2 : Int) (z3 : Bool) (l4 : List (Int × Int × Int)) (x5 : Int) (z6 : Bool) (l7 : List (Int × Int × Int)) (x8 : Int) : lp k impl_MeshNew [] fu 5 (n + 1) (qlm x0 x1 x2 z3 l4 x5 z6 l7 x8) =
 cond (decide (x2 < x1))
 (cond (decide ((0 : Int) ≤ x0))
 (lp k impl_MeshNew [] ((5, n) :: fu) 8 k (qln x0 x2 x1 x2 (IntKind.wrap .i64 ((1 : Int) * (2 : Int) ^ shiftN .i64 x0)) (0 : Int) z3 l4 x5 z6 l7 x8))
 (none))
 (some [(.agg [(.int .i64 (x8)), (.arr true (z6) (.r3 (l7)))]), (.bool (true))]) := by kernel_rfl
theorem qhg (k n : Nat) (fu : List (Nat × Nat)) (x0 x1 x2 x3 x4 x5 : Int) (z6 : Bool) (l7 : List (Int × Int × Int)) (x8 : Int) (z9 : Bool) (l10 : List (Int × Int × Int)) (x11 : Int) : lp k impl_MeshNew [] fu 8 (n + 1) (qln x0 x1 x2 x3 x4 x5 z6 l7 x8 z9 l10 x11) =
 cond (decide (x5 < x4))
 (cond (decide (List.length (l10 ++ [(x1, x0, x5)]) ≤ bigLen))
 (lp k impl_MeshNew [] fu 8 n (qln x0 x1 x2 x3 x4 (IntKind.wrap .i64 (x5 + (1 : Int))) z6 l7 x8 (z9 && decide (List.length (l10 ++ [(x1, x0, x5)]) = 0)) (l10 ++ [(x1, x0, x5)]) x11))
 (none))
 (lp k impl_MeshNew [] fu 5 (fuelOf fu 5) (qlm x0 x2 (IntKind.wrap .i64 (x3 + (1 : Int))) z6 l7 x8 z9 l10 x11)) := by kernel_rfl
theorem qd5 (k : Nat) (a0 a1 a2 b0 b1 b2 : Int) : go (k + 1) impl_Contains [(.agg [(.int .i64 (a0)), (.int .i64 (a1)), (.int .i64 (a2))]), (.agg [(.int .i64 (b0)), (.int .i64 (b1)), (.int .i64 (b2))])] =
 (go k impl_IdOk [(.agg [(.int .i64 (a0)), (.int .i64 (a1)), (.int .i64 (a2))])]).bind fun r0 =>
 cond (bit (nth r0 0))
 ((go k impl_IdOk [(.agg [(.int .i64 (b0)), (.int .i64 (b1)), (.int .i64 (b2))])]).bind fun r1 =>
 cond (bit (nth r1 0))
 (cond (decide (a0 = b0))
 (cond (decide (a1 ≤ b1))
 (cond (decide ((0 : Int) ≤ IntKind.wrap .i64 (b1 - a1)))
 (some [(.bool (decide (Int.fdiv b2 ((2 : Int) ^ shiftN .i64 (IntKind.wrap .i64 (b1 - a1))) = a2)))])
 (none))
 (some [(.bool (false))]))
 (some [(.bool (false))]))
 (some [(.bool (false))]))
 (some [(.bool (false))]) := by kernel_rfl
theorem qd8 (k : Nat) (a0 : Int) (a1z : Bool) (a1 : List (Int × Int × Int)) (b0 b1 b2 : Int) : go (k + 1) impl_LeafOf [(.agg [(.int .i64 (a0)), (.arr false (a1z) (.r3 (a1)))]), (.agg [(.int .i64 (b0)), (.int .i64 (b1)), (.int .i64 (b2))])] =
 (go k slices_Index_impl_Id_impl_Id [(.arr false (a1z) (.r3 (a1))), (.agg [(.int .i64 (b0)), (.int .i64 (b1)), (.int .i64 (b2))])]).bind fun r0 =>
 some [(.int .i64 (D.toInt (nth r0 0)))] := by kernel_rfl
def ql5 (x0 x1 : Int) (z2 : Bool) (l3 : List (Int × Int × Int)) (x4 x5 x6 : Int) : St := ⟨fill 19 [(0, (.sl 0 none)), (3, (.ptr 1 (0) (0))), (7, (.int .i64 (x0))), (8, (.int .i64 (x1)))], [], [(.arr false (z2) (.r3 (l3))), (.box true [(.int .i64 (x4)), (.int .i64 (x5)), (.int .i64 (x6))])]⟩
theorem qfv (k : Nat) (az : Bool) (a : List (Int × Int × Int)) (b0 b1 b2 : Int) : go (k + 1) slices_Index_impl_Id_impl_Id [(.arr false (az) (.r3 (a))), (.agg [(.int .i64 (b0)), (.int .i64 (b1)), (.int .i64 (b2))])] =
 lp k slices_Index_impl_Id_impl_Id [] [] 2 k (ql5 (nI (List.length a)) (0 : Int) az a b0 b1 b2) := by kernel_rfl
theorem qhy (k n : Nat) (fu : List (Nat × Nat)) (x0 x1 : Int) (z2 : Bool) (l3 : List (Int × Int × Int)) (x4 x5 x6 : Int) : lp k slices_Index_impl_Id_impl_Id [] fu 2 (n + 1) (ql5 x0 x1 z2 l3 x4 x5 x6) =
 cond (decide (x1 < x0))
 (cond (decide ((0 : Int) ≤ x1) && decide (x1 < nI (List.length l3)))
 (cond (decide (x4 = Prod.fst (List.getD l3 (Int.toNat x1) zz3)) && (decide (x5 = Prod.fst (Prod.snd (List.getD l3 (Int.toNat x1) zz3))) && (decide (x6 = Prod.snd (Prod.snd (List.getD l3 (Int.toNat x1) zz3))) && true)))
 (some [(.int .i64 (x1))])
 (lp k slices_Index_impl_Id_impl_Id [] fu 2 n (ql5 x0 (IntKind.wrap .i64 (x1 + (1 : Int))) z2 l3 x4 x5 x6)))
 (none))
 (some [(.int .i64 ((-1 : Int)))]) := by kernel_rfl
def qlq (z0 : Bool) (l1 : List (Int × Int × Int)) (x2 : Int) (z3 : Bool) (l4 : List (Int × Int × Int)) (z5 : Bool) (l6 : List Int) (z7 : Bool) (l8 : List Int) (z9 : Bool) (l10 : List Int) (x11 : Int) (z12 : Bool) (l13 : List (Int × Int × Int)) (z14 : Bool) (l15 : List Int) (z16 : Bool) (l17 : List Int) (z18 : Bool) (l19 : List Int) (x20 : Int) : St := ⟨fill 38 [(3, (.ptr 1 (0) (0))), (4, (.ptr 6 (0) (0))), (6, (.ptr 11 (0) (0)))], [], [(.arr false (z0) (.r3 (l1))), (.box true [(.int .i64 (x2)), (.sl 0 none)]), (.arr true (z3) (.r3 (l4))), (.arr true (z5) (.ints .i64 (l6))), (.arr true (z7) (.ints .i64 (l8))), (.arr true (z9) (.ints .i64 (l10))), (.box true [(.int .i64 (x11)), (.sl 2 none), (.sl 3 none), (.sl 4 none), (.sl 5 none)]), (.arr true (z12) (.r3 (l13))), (.arr true (z14) (.ints .i64 (l15))), (.arr true (z16) (.ints .i64 (l17))), (.arr true (z18) (.ints .i64 (l19))), (.box true [(.int .i64 (x20)), (.sl 7 none), (.sl 8 none), (.sl 9 none), (.sl 10 none)])]⟩
theorem qef (k : Nat) (a0 : Int) (a1z : Bool) (a1 : List (Int × Int × Int)) (a2z : Bool) (a2 : List Int) (a3z : Bool) (a3 : List Int) (a4z : Bool) (a4 : List Int) (b0 : Int) (b1z : Bool) (b1 : List (Int × Int × Int)) : go (k + 1) impl_RemapState [(.agg [(.int .i64 (a0)), (.arr false (a1z) (.r3 (a1))), (.arr false (a2z) (.ints .i64 (a2))), (.arr false (a3z) (.ints .i64 (a3))), (.arr false (a4z) (.ints .i64 (a4)))]), (.agg [(.int .i64 (b0)), (.arr false (b1z) (.r3 (b1)))])] =
 (go k impl_StateOk [(.agg [(.int .i64 (a0)), (.arr false (a1z) (.r3 (a1))), (.arr false (a2z) (.ints .i64 (a2))), (.arr false (a3z) (.ints .i64 (a3))), (.arr false (a4z) (.ints .i64 (a4)))])]).bind fun r0 =>
 cond (!bit (nth r0 0))
 (some [(.agg [(.int .i64 (0 : Int)), (.arr true (true) (.r3 ([]))), (.arr true (true) (.ints .i64 ([]))), (.arr true (true) (.ints .i64 ([]))), (.arr true (true) (.ints .i64 ([])))]), (.bool (false))])
 ((go k impl_IsBalanced [(.agg [(.int .i64 (b0)), (.arr false (b1z) (.r3 (b1)))])]).bind fun r1 =>
 cond (!bit (nth r1 0))
 (some [(.agg [(.int .i64 (0 : Int)), (.arr true (true) (.r3 ([]))), (.arr true (true) (.ints .i64 ([]))), (.arr true (true) (.ints .i64 ([]))), (.arr true (true) (.ints .i64 ([])))]), (.bool (false))])
 (cond (!decide (a0 = b0))
 (some [(.agg [(.int .i64 (0 : Int)), (.arr true (true) (.r3 ([]))), (.arr true (true) (.ints .i64 ([]))), (.arr true (true) (.ints .i64 ([]))), (.arr true (true) (.ints .i64 ([])))]), (.bool (false))])
 ((go k impl_copyState [(.agg [(.int .i64 (a0)), (.arr false (a1z) (.r3 (a1))), (.arr false (a2z) (.ints .i64 (a2))), (.arr false (a3z) (.ints .i64 (a3))), (.arr false (a4z) (.ints .i64 (a4)))])]).bind fun r2 =>
 lp k impl_RemapState [] [] 4 k (qlq b1z b1 b0 true ([]) true ([]) true ([]) true ([]) (0 : Int) (D.nil (D.cell 1 (nth r2 0))) (D.r3 (D.cell 1 (nth r2 0))) (D.nil (D.cell 2 (nth r2 0))) (D.ints (D.cell 2 (nth r2 0))) (D.nil (D.cell 3 (nth r2 0))) (D.ints (D.cell 3 (nth r2 0))) (D.nil (D.cell 4 (nth r2 0))) (D.ints (D.cell 4 (nth r2 0))) (D.toInt (D.cell 0 (nth r2 0))))))) := by kernel_rfl
theorem qhj (k n : Nat) (fu : List (Nat × Nat)) (z0 : Bool) (l1 : List (Int × Int × Int)) (x2 : Int) (z3 : Bool) (l4 : List (Int × Int × Int)) (z5 : Bool) (l6 : List Int) (z7 : Bool) (l8 : List Int) (z9 : Bool) (l10 : List Int) (x11 : Int) (z12 : Bool) (l13 : List (Int × Int × Int)) (z14 : Bool) (l15 : List Int) (z16 : Bool) (l17 : List Int) (z18 : Bool) (l19 : List Int) (x20 : Int) : lp k impl_RemapState [] fu 4 (n + 1) (qlq z0 l1 x2 z3 l4 z5 l6 z7 l8 z9 l10 x11 z12 l13 z14 l15 z16 l17 z18 l19 x20) =
 (go k slices_IndexFunc_impl_Id_impl_Id [(.arr false (z12) (.r3 (l13))), (.fn impl_RemapState_1 [(.ptr false [(.int .i64 (x2)), (.arr false (z0) (.r3 (l1)))])])]).bind fun r0 =>
 cond (decide (D.toInt (nth r0 0) < (0 : Int)))
 (some [(.agg [(.int .i64 (x20)), (.arr true (z12) (.r3 (l13))), (.arr true (z14) (.ints .i64 (l15))), (.arr true (z16) (.ints .i64 (l17))), (.arr true (z18) (.ints .i64 (l19)))]), (.bool (true))])
 ((go k impl_State_remap [(.ptr true [(.int .i64 (x20)), (.arr true (z12) (.r3 (l13))), (.arr true (z14) (.ints .i64 (l15))), (.arr true (z16) (.ints .i64 (l17))), (.arr true (z18) (.ints .i64 (l19)))]), (.agg [(.int .i64 (x2)), (.arr false (z0) (.r3 (l1)))]), (.int .i64 (D.toInt (nth r0 0)))]).bind fun r1 =>
 lp k impl_RemapState [] fu 4 n (qlq z0 l1 x2 z3 l4 z5 l6 z7 l8 z9 l10 x11 (D.nil (D.cell 1 (nth r1 0))) (D.r3 (D.cell 1 (nth r1 0))) (D.nil (D.cell 2 (nth r1 0))) (D.ints (D.cell 2 (nth r1 0))) (D.nil (D.cell 3 (nth r1 0))) (D.ints (D.cell 3 (nth r1 0))) (D.nil (D.cell 4 (nth r1 0))) (D.ints (D.cell 4 (nth r1 0))) (D.toInt (D.cell 0 (nth r1 0))))) := by kernel_rfl
theorem qeg (k : Nat) (v0 v1 v2 v3 : Int) (v4 : Bool) (v5 : List (Int × Int × Int)) : go (k + 1) impl_RemapState_1 [(.agg [(.int .i64 (v0)), (.int .i64 (v1)), (.int .i64 (v2))]), (.ptr false [(.int .i64 (v3)), (.arr false (v4) (.r3 (v5)))])] =
 (go k impl_LeafOf [(.agg [(.int .i64 (v3)), (.arr false (v4) (.r3 (v5)))]), (.agg [(.int .i64 (v0)), (.int .i64 (v1)), (.int .i64 (v2))])]).bind fun r0 =>
 some [(.bool (decide (D.toInt (nth r0 0) < (0 : Int))))] := by kernel_rfl
def qls (x0 x1 x2 x3 : Int) (z4 : Bool) (l5 : List (Int × Int × Int)) (z6 : Bool) (l7 : List Int) (z8 : Bool) (l9 : List Int) (z10 : Bool) (l11 : List Int) (x12 : Int) (z13 : Bool) (l14 : List (Int × Int × Int)) (x15 : Int) : St := ⟨fill 69 [(0, (.ptr 4 (0) (0))), (4, (.ptr 6 (0) (0))), (7, (.int .i64 (x0))), (8, (.int .i64 (x1))), (32, (.sl 0 none)), (33, (.int .i64 (x2))), (34, (.int .i64 (x3)))], [(.ptr 4 (0) (0))], [(.arr true (z4) (.r3 (l5))), (.arr true (z6) (.ints .i64 (l7))), (.arr true (z8) (.ints .i64 (l9))), (.arr true (z10) (.ints .i64 (l11))), (.box true [(.int .i64 (x12)), (.sl 0 none), (.sl 1 none), (.sl 2 none), (.sl 3 none)]), (.arr false (z13) (.r3 (l14))), (.box true [(.int .i64 (x15)), (.sl 5 none)])]⟩
theorem qep (k : Nat) (a0 : Int) (a1z : Bool) (a1 : List (Int × Int × Int)) (a2z : Bool) (a2 : List Int) (a3z : Bool) (a3 : List Int) (a4z : Bool) (a4 : List Int) (b0 : Int) (b1z : Bool) (b1 : List (Int × Int × Int)) (c : Int) : go (k + 1) impl_State_remap [(.ptr true [(.int .i64 (a0)), (.arr true (a1z) (.r3 (a1))), (.arr true (a2z) (.ints .i64 (a2))), (.arr true (a3z) (.ints .i64 (a3))), (.arr true (a4z) (.ints .i64 (a4)))]), (.agg [(.int .i64 (b0)), (.arr false (b1z) (.r3 (b1)))]), (.int .i64 (c))] =
 cond (decide ((0 : Int) ≤ c) && decide (c < nI (List.length a1)))
 ((go k slices_IndexFunc_impl_Id_impl_Id [(.arr false (b1z) (.r3 (b1))), (.fn impl_State_remap_1 [(.ptr false [(.int .i64 (Prod.fst (List.getD a1 (Int.toNat c) zz3))), (.int .i64 (Prod.fst (Prod.snd (List.getD a1 (Int.toNat c) zz3)))), (.int .i64 (Prod.snd (Prod.snd (List.getD a1 (Int.toNat c) zz3))))])])]).bind fun r0 =>
 cond (decide (D.toInt (nth r0 0) < (0 : Int)))
 ((go k impl_State_refine [(.ptr true [(.int .i64 (a0)), (.arr true (a1z) (.r3 (a1))), (.arr true (a2z) (.ints .i64 (a2))), (.arr true (a3z) (.ints .i64 (a3))), (.arr true (a4z) (.ints .i64 (a4)))]), (.int .i64 (c))]).bind fun r1 =>
 some [(.ptr true [(.int .i64 (D.toInt (D.cell 0 (nth r1 0)))), (.arr true (D.nil (D.cell 1 (nth r1 0))) (.r3 (D.r3 (D.cell 1 (nth r1 0))))), (.arr true (D.nil (D.cell 2 (nth r1 0))) (.ints .i64 (D.ints (D.cell 2 (nth r1 0))))), (.arr true (D.nil (D.cell 3 (nth r1 0))) (.ints .i64 (D.ints (D.cell 3 (nth r1 0))))), (.arr true (D.nil (D.cell 4 (nth r1 0))) (.ints .i64 (D.ints (D.cell 4 (nth r1 0)))))])])
 (lp k impl_State_remap [(.ptr true [(.int .i64 (a0)), (.arr true (a1z) (.r3 (a1))), (.arr true (a2z) (.ints .i64 (a2))), (.arr true (a3z) (.ints .i64 (a3))), (.arr true (a4z) (.ints .i64 (a4)))])] [] 7 k (qls (D.toInt (nth r0 0)) ((-1 : Int)) (nI (List.length a1)) (0 : Int) a1z a1 a2z a2 a3z a3 a4z a4 a0 b1z b1 b0)))
 (none) := by kernel_rfl
theorem qhl (k n : Nat) (fu : List (Nat × Nat)) (a0 : Int) (a1z : Bool) (a1 : List (Int × Int × Int)) (a2z : Bool) (a2 : List Int) (a3z : Bool) (a3 : List Int) (a4z : Bool) (a4 : List Int) (x0 x1 x2 x3 : Int) (z4 : Bool) (l5 : List (Int × Int × Int)) (z6 : Bool) (l7 : List Int) (z8 : Bool) (l9 : List Int) (z10 : Bool) (l11 : List Int) (x12 : Int) (z13 : Bool) (l14 : List (Int × Int × Int)) (x15 : Int) : lp k impl_State_remap [(.ptr true [(.int .i64 (a0)), (.arr true (a1z) (.r3 (a1))), (.arr true (a2z) (.ints .i64 (a2))), (.arr true (a3z) (.ints .i64 (a3))), (.arr true (a4z) (.ints .i64 (a4)))])] fu 7 (n + 1) (qls x0 x1 x2 x3 z4 l5 z6 l7 z8 l9 z10 l11 x12 z13 l14 x15) =
 cond (decide (x3 < x2))
 (cond (decide ((0 : Int) ≤ x3) && decide (x3 < nI (List.length l5)))
 (cond (decide ((0 : Int) ≤ x0) && decide (x0 < nI (List.length l14)))
 ((go k impl_Contains [(.agg [(.int .i64 (Prod.fst (List.getD l14 (Int.toNat x0) zz3))), (.int .i64 (Prod.fst (Prod.snd (List.getD l14 (Int.toNat x0) zz3)))), (.int .i64 (Prod.snd (Prod.snd (List.getD l14 (Int.toNat x0) zz3))))]), (.agg [(.int .i64 (Prod.fst (List.getD l5 (Int.toNat x3) zz3))), (.int .i64 (Prod.fst (Prod.snd (List.getD l5 (Int.toNat x3) zz3)))), (.int .i64 (Prod.snd (Prod.snd (List.getD l5 (Int.toNat x3) zz3))))])]).bind fun r0 =>
 cond (bit (nth r0 0))
 (cond (decide (x1 < (0 : Int)))
 (lp k impl_State_remap [(.ptr true [(.int .i64 (a0)), (.arr true (a1z) (.r3 (a1))), (.arr true (a2z) (.ints .i64 (a2))), (.arr true (a3z) (.ints .i64 (a3))), (.arr true (a4z) (.ints .i64 (a4)))])] fu 7 n (qls x0 x3 x2 (IntKind.wrap .i64 (x3 + (1 : Int))) z4 l5 z6 l7 z8 l9 z10 l11 x12 z13 l14 x15))
 (cond (decide ((0 : Int) ≤ x1) && decide (x1 < nI (List.length l5)))
 (cond (decide (Prod.fst (Prod.snd (List.getD l5 (Int.toNat x1) zz3)) < Prod.fst (Prod.snd (List.getD l5 (Int.toNat x3) zz3))))
 (lp k impl_State_remap [(.ptr true [(.int .i64 (a0)), (.arr true (a1z) (.r3 (a1))), (.arr true (a2z) (.ints .i64 (a2))), (.arr true (a3z) (.ints .i64 (a3))), (.arr true (a4z) (.ints .i64 (a4)))])] fu 7 n (qls x0 x3 x2 (IntKind.wrap .i64 (x3 + (1 : Int))) z4 l5 z6 l7 z8 l9 z10 l11 x12 z13 l14 x15))
 (lp k impl_State_remap [(.ptr true [(.int .i64 (a0)), (.arr true (a1z) (.r3 (a1))), (.arr true (a2z) (.ints .i64 (a2))), (.arr true (a3z) (.ints .i64 (a3))), (.arr true (a4z) (.ints .i64 (a4)))])] fu 7 n (qls x0 x1 x2 (IntKind.wrap .i64 (x3 + (1 : Int))) z4 l5 z6 l7 z8 l9 z10 l11 x12 z13 l14 x15)))
 (none)))
 (lp k impl_State_remap [(.ptr true [(.int .i64 (a0)), (.arr true (a1z) (.r3 (a1))), (.arr true (a2z) (.ints .i64 (a2))), (.arr true (a3z) (.ints .i64 (a3))), (.arr true (a4z) (.ints .i64 (a4)))])] fu 7 n (qls x0 x1 x2 (IntKind.wrap .i64 (x3 + (1 : Int))) z4 l5 z6 l7 z8 l9 z10 l11 x12 z13 l14 x15)))
 (none))
 (none))
 ((go k impl_State_coarsen [(.ptr true [(.int .i64 (x12)), (.arr true (z4) (.r3 (l5))), (.arr true (z6) (.ints .i64 (l7))), (.arr true (z8) (.ints .i64 (l9))), (.arr true (z10) (.ints .i64 (l11)))]), (.int .i64 (x1))]).bind fun r1 =>
 some [(.ptr true [(.int .i64 (D.toInt (D.cell 0 (nth r1 0)))), (.arr true (D.nil (D.cell 1 (nth r1 0))) (.r3 (D.r3 (D.cell 1 (nth r1 0))))), (.arr true (D.nil (D.cell 2 (nth r1 0))) (.ints .i64 (D.ints (D.cell 2 (nth r1 0))))), (.arr true (D.nil (D.cell 3 (nth r1 0))) (.ints .i64 (D.ints (D.cell 3 (nth r1 0))))), (.arr true (D.nil (D.cell 4 (nth r1 0))) (.ints .i64 (D.ints (D.cell 4 (nth r1 0)))))])]) := by kernel_rfl
theorem qeq (k : Nat) (v0 v1 v2 v3 v4 v5 : Int) : go (k + 1) impl_State_remap_1 [(.agg [(.int .i64 (v0)), (.int .i64 (v1)), (.int .i64 (v2))]), (.ptr false [(.int .i64 (v3)), (.int .i64 (v4)), (.int .i64 (v5))])] =
 (go k impl_Contains [(.agg [(.int .i64 (v0)), (.int .i64 (v1)), (.int .i64 (v2))]), (.agg [(.int .i64 (v3)), (.int .i64 (v4)), (.int .i64 (v5))])]).bind fun r0 =>
 some [(.bool (bit (nth r0 0)))] := by kernel_rfl
theorem qer (k : Nat) (a0 : Int) (a1z : Bool) (a1 : List (Int × Int × Int)) (a2z : Bool) (a2 : List Int) (a3z : Bool) (a3 : List Int) (a4z : Bool) (a4 : List Int) (b : Int) : go (k + 1) impl_UniformOf [(.agg [(.int .i64 (a0)), (.arr false (a1z) (.r3 (a1))), (.arr false (a2z) (.ints .i64 (a2))), (.arr false (a3z) (.ints .i64 (a3))), (.arr false (a4z) (.ints .i64 (a4)))]), (.int .i64 (b))] =
 (go k impl_MeshNew [(.int .i64 (a0)), (.int .i64 (b))]).bind fun r0 =>
 cond (!bit (nth r0 1))
 (some [(.agg [(.int .i64 (0 : Int)), (.arr true (true) (.r3 ([]))), (.arr true (true) (.ints .i64 ([]))), (.arr true (true) (.ints .i64 ([]))), (.arr true (true) (.ints .i64 ([])))]), (.bool (false))])
 ((go k impl_RemapState [(.agg [(.int .i64 (a0)), (.arr false (a1z) (.r3 (a1))), (.arr false (a2z) (.ints .i64 (a2))), (.arr false (a3z) (.ints .i64 (a3))), (.arr false (a4z) (.ints .i64 (a4)))]), (.agg [(.int .i64 (D.toInt (D.cell 0 (nth r0 0)))), (.arr false (D.nil (D.cell 1 (nth r0 0))) (.r3 (D.r3 (D.cell 1 (nth r0 0)))))])]).bind fun r1 =>
 some [(.agg [(.int .i64 (D.toInt (D.cell 0 (nth r1 0)))), (.arr true (D.nil (D.cell 1 (nth r1 0))) (.r3 (D.r3 (D.cell 1 (nth r1 0))))), (.arr true (D.nil (D.cell 2 (nth r1 0))) (.ints .i64 (D.ints (D.cell 2 (nth r1 0))))), (.arr true (D.nil (D.cell 3 (nth r1 0))) (.ints .i64 (D.ints (D.cell 3 (nth r1 0))))), (.arr true (D.nil (D.cell 4 (nth r1 0))) (.ints .i64 (D.ints (D.cell 4 (nth r1 0)))))]), (.bool (bit (nth r1 1)))]) := by kernel_rfl
def ql7 (x0 x1 x2 : Int) (z3 : Bool) (l4 : List (Int × Int × Int)) (x5 : Int) (z6 : Bool) (l7 : List (Int × Int × Int)) (x8 : Int) : St := ⟨fill 42 [(0, (.int .i64 (x0))), (1, (.int .i64 (x1))), (4, (.ptr 1 (0) (0))), (6, (.ptr 3 (0) (0))), (7, (.int .i64 (x2)))], [], [(.arr true (z3) (.r3 (l4))), (.box true [(.int .i64 (x5)), (.sl 0 none)]), (.arr true (z6) (.r3 (l7))), (.box true [(.int .i64 (x8)), (.sl 2 none)])]⟩
def ql8 (x0 x1 x2 x3 : Int) (z4 : Bool) (l5 : List (Int × Int × Int)) (x6 : Int) (z7 : Bool) (l8 : List (Int × Int × Int)) (x9 : Int) : St := ⟨fill 42 [(0, (.int .i64 (x0))), (1, (.int .i64 (x1))), (4, (.ptr 1 (0) (0))), (6, (.ptr 3 (0) (0))), (7, (.int .i64 (x2))), (8, (.int .i64 (x3)))], [], [(.arr true (z4) (.r3 (l5))), (.box true [(.int .i64 (x6)), (.sl 0 none)]), (.arr true (z7) (.r3 (l8))), (.box true [(.int .i64 (x9)), (.sl 2 none)])]⟩
theorem qf1 (k : Nat) (a b : Int) : go (k + 1) spec_MeshNew [(.int .i64 (a)), (.int .i64 (b))] =
 (go k spec_l01In [(.int .i64 (a)), (.int .i64 ((1 : Int))), (.int .i64 ((8 : Int)))]).bind fun r0 =>
 cond (!bit (nth r0 0))
 (some [(.agg [(.int .i64 (0 : Int)), (.arr true (true) (.r3 ([])))]), (.bool (false))])
 ((go k spec_l01In [(.int .i64 (b)), (.int .i64 (0 : Int)), (.int .i64 ((4 : Int)))]).bind fun r1 =>
 cond (!bit (nth r1 0))
 (some [(.agg [(.int .i64 (0 : Int)), (.arr true (true) (.r3 ([])))]), (.bool (false))])
 (lp k spec_MeshNew [] [] 5 k (ql7 a b (0 : Int) true ([]) (0 : Int) true ([]) a))) := by kernel_rfl
theorem qh0 (k n : Nat) (fu : List (Nat × Nat)) (x0 x1 x2 : Int) (z3 : Bool) (l4 : List (Int × Int × Int)) (x5 : Int) (z6 : Bool) (l7 : List (Int × Int × Int)) (x8 : Int) : lp k spec_MeshNew [] fu 5 (n + 1) (ql7 x0 x1 x2 z3 l4 x5 z6 l7 x8) =
 cond (decide (x2 < x0))
 (lp k spec_MeshNew [] ((5, n) :: fu) 8 k (ql8 x0 x1 x2 (0 : Int) z3 l4 x5 z6 l7 x8))
 (some [(.agg [(.int .i64 (x8)), (.arr true (z6) (.r3 (l7)))]), (.bool (true))]) := by kernel_rfl
theorem qh1 (k n : Nat) (fu : List (Nat × Nat)) (x0 x1 x2 x3 : Int) (z4 : Bool) (l5 : List (Int × Int × Int)) (x6 : Int) (z7 : Bool) (l8 : List (Int × Int × Int)) (x9 : Int) : lp k spec_MeshNew [] fu 8 (n + 1) (ql8 x0 x1 x2 x3 z4 l5 x6 z7 l8 x9) =
 cond (decide ((0 : Int) ≤ IntKind.wrap IntKind.u64 x1))
 (cond (decide (x3 < IntKind.wrap .i64 ((1 : Int) * (2 : Int) ^ shiftN .i64 (IntKind.wrap IntKind.u64 x1))))
 (cond (decide (List.length (l8 ++ [(x2, x1, x3)]) ≤ bigLen))
 (lp k spec_MeshNew [] fu 8 n (ql8 x0 x1 x2 (IntKind.wrap .i64 (x3 + (1 : Int))) z4 l5 x6 (z7 && decide (List.length (l8 ++ [(x2, x1, x3)]) = 0)) (l8 ++ [(x2, x1, x3)]) x9))
 (none))
 (lp k spec_MeshNew [] fu 5 (fuelOf fu 5) (ql7 x0 x1 (IntKind.wrap .i64 (x2 + (1 : Int))) z4 l5 x6 z7 l8 x9)))
 (none) := by kernel_rfl
theorem qfx (k : Nat) (a0 a1 a2 b0 b1 b2 : Int) : go (k + 1) spec_Contains [(.agg [(.int .i64 (a0)), (.int .i64 (a1)), (.int .i64 (a2))]), (.agg [(.int .i64 (b0)), (.int .i64 (b1)), (.int .i64 (b2))])] =
 (go k spec_IdOk [(.agg [(.int .i64 (a0)), (.int .i64 (a1)), (.int .i64 (a2))])]).bind fun r0 =>
 cond (bit (nth r0 0))
 ((go k spec_IdOk [(.agg [(.int .i64 (b0)), (.int .i64 (b1)), (.int .i64 (b2))])]).bind fun r1 =>
 cond (bit (nth r1 0))
 (cond (decide (a0 = b0))
 (cond (decide (a1 ≤ b1))
 (cond (decide ((0 : Int) ≤ IntKind.wrap IntKind.u64 (IntKind.wrap .i64 (b1 - a1))))
 (some [(.bool (decide (Int.fdiv b2 ((2 : Int) ^ shiftN .i64 (IntKind.wrap IntKind.u64 (IntKind.wrap .i64 (b1 - a1)))) = a2)))])
 (none))
 (some [(.bool (false))]))
 (some [(.bool (false))]))
 (some [(.bool (false))]))
 (some [(.bool (false))]) := by kernel_rfl
def qma (x0 : Int) (z1 : Bool) (l2 : List (Int × Int × Int)) (x3 : Int) (z4 : Bool) (l5 : List (Int × Int × Int)) (z6 : Bool) (l7 : List Int) (z8 : Bool) (l9 : List Int) (z10 : Bool) (l11 : List Int) (x12 : Int) (z13 : Bool) (l14 : List (Int × Int × Int)) (z15 : Bool) (l16 : List Int) (z17 : Bool) (l18 : List Int) (z19 : Bool) (l20 : List Int) (x21 : Int) : St := ⟨fill 63 [(3, (.ptr 1 (0) (0))), (4, (.ptr 6 (0) (0))), (6, (.ptr 11 (0) (0))), (7, (.int .i64 (x0)))], [], [(.arr false (z1) (.r3 (l2))), (.box true [(.int .i64 (x3)), (.sl 0 none)]), (.arr true (z4) (.r3 (l5))), (.arr true (z6) (.ints .i64 (l7))), (.arr true (z8) (.ints .i64 (l9))), (.arr true (z10) (.ints .i64 (l11))), (.box true [(.int .i64 (x12)), (.sl 2 none), (.sl 3 none), (.sl 4 none), (.sl 5 none)]), (.arr true (z13) (.r3 (l14))), (.arr true (z15) (.ints .i64 (l16))), (.arr true (z17) (.ints .i64 (l18))), (.arr true (z19) (.ints .i64 (l20))), (.box true [(.int .i64 (x21)), (.sl 7 none), (.sl 8 none), (.sl 9 none), (.sl 10 none)])]⟩
theorem qf4 (k : Nat) (a0 : Int) (a1z : Bool) (a1 : List (Int × Int × Int)) (a2z : Bool) (a2 : List Int) (a3z : Bool) (a3 : List Int) (a4z : Bool) (a4 : List Int) (b0 : Int) (b1z : Bool) (b1 : List (Int × Int × Int)) : go (k + 1) spec_RemapState [(.agg [(.int .i64 (a0)), (.arr false (a1z) (.r3 (a1))), (.arr false (a2z) (.ints .i64 (a2))), (.arr false (a3z) (.ints .i64 (a3))), (.arr false (a4z) (.ints .i64 (a4)))]), (.agg [(.int .i64 (b0)), (.arr false (b1z) (.r3 (b1)))])] =
 (go k spec_StateOk [(.agg [(.int .i64 (a0)), (.arr false (a1z) (.r3 (a1))), (.arr false (a2z) (.ints .i64 (a2))), (.arr false (a3z) (.ints .i64 (a3))), (.arr false (a4z) (.ints .i64 (a4)))])]).bind fun r0 =>
 cond (!bit (nth r0 0))
 (some [(.agg [(.int .i64 (0 : Int)), (.arr true (true) (.r3 ([]))), (.arr true (true) (.ints .i64 ([]))), (.arr true (true) (.ints .i64 ([]))), (.arr true (true) (.ints .i64 ([])))]), (.bool (false))])
 ((go k spec_IsBalanced [(.agg [(.int .i64 (b0)), (.arr false (b1z) (.r3 (b1)))])]).bind fun r1 =>
 cond (!bit (nth r1 0))
 (some [(.agg [(.int .i64 (0 : Int)), (.arr true (true) (.r3 ([]))), (.arr true (true) (.ints .i64 ([]))), (.arr true (true) (.ints .i64 ([]))), (.arr true (true) (.ints .i64 ([])))]), (.bool (false))])
 (cond (!decide (b0 = a0))
 (some [(.agg [(.int .i64 (0 : Int)), (.arr true (true) (.r3 ([]))), (.arr true (true) (.ints .i64 ([]))), (.arr true (true) (.ints .i64 ([]))), (.arr true (true) (.ints .i64 ([])))]), (.bool (false))])
 ((go k spec_l07Copy [(.agg [(.int .i64 (a0)), (.arr false (a1z) (.r3 (a1))), (.arr false (a2z) (.ints .i64 (a2))), (.arr false (a3z) (.ints .i64 (a3))), (.arr false (a4z) (.ints .i64 (a4)))])]).bind fun r2 =>
 (go k spec_l17Strange [(.agg [(.int .i64 (D.toInt (D.cell 0 (nth r2 0)))), (.arr false (D.nil (D.cell 1 (nth r2 0))) (.r3 (D.r3 (D.cell 1 (nth r2 0)))))]), (.agg [(.int .i64 (b0)), (.arr false (b1z) (.r3 (b1)))])]).bind fun r3 =>
 lp k spec_RemapState [] [] 5 k (qma (D.toInt (nth r3 0)) b1z b1 b0 true ([]) true ([]) true ([]) true ([]) (0 : Int) (D.nil (D.cell 1 (nth r2 0))) (D.r3 (D.cell 1 (nth r2 0))) (D.nil (D.cell 2 (nth r2 0))) (D.ints (D.cell 2 (nth r2 0))) (D.nil (D.cell 3 (nth r2 0))) (D.ints (D.cell 3 (nth r2 0))) (D.nil (D.cell 4 (nth r2 0))) (D.ints (D.cell 4 (nth r2 0))) (D.toInt (D.cell 0 (nth r2 0))))))) := by kernel_rfl
theorem qh3 (k n : Nat) (fu : List (Nat × Nat)) (x0 : Int) (z1 : Bool) (l2 : List (Int × Int × Int)) (x3 : Int) (z4 : Bool) (l5 : List (Int × Int × Int)) (z6 : Bool) (l7 : List Int) (z8 : Bool) (l9 : List Int) (z10 : Bool) (l11 : List Int) (x12 : Int) (z13 : Bool) (l14 : List (Int × Int × Int)) (z15 : Bool) (l16 : List Int) (z17 : Bool) (l18 : List Int) (z19 : Bool) (l20 : List Int) (x21 : Int) : lp k spec_RemapState [] fu 5 (n + 1) (qma x0 z1 l2 x3 z4 l5 z6 l7 z8 l9 z10 l11 x12 z13 l14 z15 l16 z17 l18 z19 l20 x21) =
 cond (decide ((0 : Int) ≤ x0))
 (cond (decide ((0 : Int) ≤ x0) && decide (x0 < nI (List.length l14)))
 ((go k spec_l17Within [(.agg [(.int .i64 (x3)), (.arr false (z1) (.r3 (l2)))]), (.agg [(.int .i64 (Prod.fst (List.getD l14 (Int.toNat x0) zz3))), (.int .i64 (Prod.fst (Prod.snd (List.getD l14 (Int.toNat x0) zz3)))), (.int .i64 (Prod.snd (Prod.snd (List.getD l14 (Int.toNat x0) zz3))))])]).bind fun r0 =>
 cond (bit (nth r0 0))
 ((go k spec_l08Split [(.agg [(.int .i64 (x21)), (.arr false (z13) (.r3 (l14))), (.arr false (z15) (.ints .i64 (l16))), (.arr false (z17) (.ints .i64 (l18))), (.arr false (z19) (.ints .i64 (l20)))]), (.int .i64 (x0))]).bind fun r1 =>
 (go k spec_l17Strange [(.agg [(.int .i64 (D.toInt (D.cell 0 (nth r1 0)))), (.arr false (D.nil (D.cell 1 (nth r1 0))) (.r3 (D.r3 (D.cell 1 (nth r1 0)))))]), (.agg [(.int .i64 (x3)), (.arr false (z1) (.r3 (l2)))])]).bind fun r2 =>
 lp k spec_RemapState [] fu 5 n (qma (D.toInt (nth r2 0)) z1 l2 x3 z4 l5 z6 l7 z8 l9 z10 l11 x12 (D.nil (D.cell 1 (nth r1 0))) (D.r3 (D.cell 1 (nth r1 0))) (D.nil (D.cell 2 (nth r1 0))) (D.ints (D.cell 2 (nth r1 0))) (D.nil (D.cell 3 (nth r1 0))) (D.ints (D.cell 3 (nth r1 0))) (D.nil (D.cell 4 (nth r1 0))) (D.ints (D.cell 4 (nth r1 0))) (D.toInt (D.cell 0 (nth r1 0)))))
 ((go k spec_l17Outer [(.agg [(.int .i64 (x3)), (.arr false (z1) (.r3 (l2)))]), (.agg [(.int .i64 (Prod.fst (List.getD l14 (Int.toNat x0) zz3))), (.int .i64 (Prod.fst (Prod.snd (List.getD l14 (Int.toNat x0) zz3)))), (.int .i64 (Prod.snd (Prod.snd (List.getD l14 (Int.toNat x0) zz3))))])]).bind fun r3 =>
 cond (decide ((0 : Int) ≤ D.toInt (nth r3 0)) && decide (D.toInt (nth r3 0) < nI (List.length l2)))
 ((go k spec_l17Deepest [(.agg [(.int .i64 (x21)), (.arr false (z13) (.r3 (l14)))]), (.agg [(.int .i64 (Prod.fst (List.getD l2 (Int.toNat (D.toInt (nth r3 0))) zz3))), (.int .i64 (Prod.fst (Prod.snd (List.getD l2 (Int.toNat (D.toInt (nth r3 0))) zz3)))), (.int .i64 (Prod.snd (Prod.snd (List.getD l2 (Int.toNat (D.toInt (nth r3 0))) zz3))))])]).bind fun r4 =>
 (go k spec_l08Merge [(.agg [(.int .i64 (x21)), (.arr false (z13) (.r3 (l14))), (.arr false (z15) (.ints .i64 (l16))), (.arr false (z17) (.ints .i64 (l18))), (.arr false (z19) (.ints .i64 (l20)))]), (.int .i64 (D.toInt (nth r4 0)))]).bind fun r5 =>
 (go k spec_l17Strange [(.agg [(.int .i64 (D.toInt (D.cell 0 (nth r5 0)))), (.arr false (D.nil (D.cell 1 (nth r5 0))) (.r3 (D.r3 (D.cell 1 (nth r5 0)))))]), (.agg [(.int .i64 (x3)), (.arr false (z1) (.r3 (l2)))])]).bind fun r6 =>
 lp k spec_RemapState [] fu 5 n (qma (D.toInt (nth r6 0)) z1 l2 x3 z4 l5 z6 l7 z8 l9 z10 l11 x12 (D.nil (D.cell 1 (nth r5 0))) (D.r3 (D.cell 1 (nth r5 0))) (D.nil (D.cell 2 (nth r5 0))) (D.ints (D.cell 2 (nth r5 0))) (D.nil (D.cell 3 (nth r5 0))) (D.ints (D.cell 3 (nth r5 0))) (D.nil (D.cell 4 (nth r5 0))) (D.ints (D.cell 4 (nth r5 0))) (D.toInt (D.cell 0 (nth r5 0)))))
 (none)))
 (none))
 (some [(.agg [(.int .i64 (x21)), (.arr true (z13) (.r3 (l14))), (.arr true (z15) (.ints .i64 (l16))), (.arr true (z17) (.ints .i64 (l18))), (.arr true (z19) (.ints .i64 (l20)))]), (.bool (true))]) := by kernel_rfl
def qmh (x0 : Int) (z1 : Bool) (l2 : List (Int × Int × Int)) (x3 : Int) (z4 : Bool) (l5 : List (Int × Int × Int)) (x6 : Int) : St := ⟨fill 22 [(2, (.ptr 1 (0) (0))), (3, (.ptr 3 (0) (0))), (5, (.int .i64 (x0)))], [], [(.arr false (z1) (.r3 (l2))), (.box true [(.int .i64 (x3)), (.sl 0 none)]), (.arr false (z4) (.r3 (l5))), (.box true [(.int .i64 (x6)), (.sl 2 none)])]⟩
theorem qgn (k : Nat) (a0 : Int) (a1z : Bool) (a1 : List (Int × Int × Int)) (b0 : Int) (b1z : Bool) (b1 : List (Int × Int × Int)) : go (k + 1) spec_l17Strange [(.agg [(.int .i64 (a0)), (.arr false (a1z) (.r3 (a1)))]), (.agg [(.int .i64 (b0)), (.arr false (b1z) (.r3 (b1)))])] =
 lp k spec_l17Strange [] [] 2 k (qmh (0 : Int) a1z a1 a0 b1z b1 b0) := by kernel_rfl
theorem qia (k n : Nat) (fu : List (Nat × Nat)) (x0 : Int) (z1 : Bool) (l2 : List (Int × Int × Int)) (x3 : Int) (z4 : Bool) (l5 : List (Int × Int × Int)) (x6 : Int) : lp k spec_l17Strange [] fu 2 (n + 1) (qmh x0 z1 l2 x3 z4 l5 x6) =
 cond (decide (x0 < nI (List.length l2)))
 (cond (decide ((0 : Int) ≤ x0) && decide (x0 < nI (List.length l2)))
 ((go k spec_LeafOf [(.agg [(.int .i64 (x6)), (.arr false (z4) (.r3 (l5)))]), (.agg [(.int .i64 (Prod.fst (List.getD l2 (Int.toNat x0) zz3))), (.int .i64 (Prod.fst (Prod.snd (List.getD l2 (Int.toNat x0) zz3)))), (.int .i64 (Prod.snd (Prod.snd (List.getD l2 (Int.toNat x0) zz3))))])]).bind fun r0 =>
 cond (decide (D.toInt (nth r0 0) < (0 : Int)))
 (some [(.int .i64 (x0))])
 (lp k spec_l17Strange [] fu 2 n (qmh (IntKind.wrap .i64 (x0 + (1 : Int))) z1 l2 x3 z4 l5 x6)))
 (none))
 (some [(.int .i64 ((-1 : Int)))]) := by kernel_rfl
def qmi (x0 : Int) (z1 : Bool) (l2 : List (Int × Int × Int)) (x3 x4 x5 x6 : Int) : St := ⟨fill 29 [(2, (.ptr 1 (0) (0))), (3, (.ptr 2 (0) (0))), (5, (.int .i64 (x0)))], [], [(.arr false (z1) (.r3 (l2))), (.box true [(.int .i64 (x3)), (.sl 0 none)]), (.box true [(.int .i64 (x4)), (.int .i64 (x5)), (.int .i64 (x6))])]⟩
theorem qgo (k : Nat) (a0 : Int) (a1z : Bool) (a1 : List (Int × Int × Int)) (b0 b1 b2 : Int) : go (k + 1) spec_l17Within [(.agg [(.int .i64 (a0)), (.arr false (a1z) (.r3 (a1)))]), (.agg [(.int .i64 (b0)), (.int .i64 (b1)), (.int .i64 (b2))])] =
 lp k spec_l17Within [] [] 2 k (qmi (0 : Int) a1z a1 a0 b0 b1 b2) := by kernel_rfl
theorem qib (k n : Nat) (fu : List (Nat × Nat)) (x0 : Int) (z1 : Bool) (l2 : List (Int × Int × Int)) (x3 x4 x5 x6 : Int) : lp k spec_l17Within [] fu 2 (n + 1) (qmi x0 z1 l2 x3 x4 x5 x6) =
 cond (decide (x0 < nI (List.length l2)))
 (cond (decide ((0 : Int) ≤ x0) && decide (x0 < nI (List.length l2)))
 (cond (!(decide (Prod.fst (List.getD l2 (Int.toNat x0) zz3) = x4) && (decide (Prod.fst (Prod.snd (List.getD l2 (Int.toNat x0) zz3)) = x5) && (decide (Prod.snd (Prod.snd (List.getD l2 (Int.toNat x0) zz3)) = x6) && true))))
 (cond (decide ((0 : Int) ≤ x0) && decide (x0 < nI (List.length l2)))
 ((go k spec_Contains [(.agg [(.int .i64 (x4)), (.int .i64 (x5)), (.int .i64 (x6))]), (.agg [(.int .i64 (Prod.fst (List.getD l2 (Int.toNat x0) zz3))), (.int .i64 (Prod.fst (Prod.snd (List.getD l2 (Int.toNat x0) zz3)))), (.int .i64 (Prod.snd (Prod.snd (List.getD l2 (Int.toNat x0) zz3))))])]).bind fun r0 =>
 cond (bit (nth r0 0))
 (some [(.bool (true))])
 (lp k spec_l17Within [] fu 2 n (qmi (IntKind.wrap .i64 (x0 + (1 : Int))) z1 l2 x3 x4 x5 x6)))
 (none))
 (lp k spec_l17Within [] fu 2 n (qmi (IntKind.wrap .i64 (x0 + (1 : Int))) z1 l2 x3 x4 x5 x6)))
 (none))
 (some [(.bool (false))]) := by kernel_rfl
def qmg (x0 : Int) (z1 : Bool) (l2 : List (Int × Int × Int)) (x3 x4 x5 x6 : Int) : St := ⟨fill 21 [(2, (.ptr 1 (0) (0))), (3, (.ptr 2 (0) (0))), (5, (.int .i64 (x0)))], [], [(.arr false (z1) (.r3 (l2))), (.box true [(.int .i64 (x3)), (.sl 0 none)]), (.box true [(.int .i64 (x4)), (.int .i64 (x5)), (.int .i64 (x6))])]⟩
theorem qgm (k : Nat) (a0 : Int) (a1z : Bool) (a1 : List (Int × Int × Int)) (b0 b1 b2 : Int) : go (k + 1) spec_l17Outer [(.agg [(.int .i64 (a0)), (.arr false (a1z) (.r3 (a1)))]), (.agg [(.int .i64 (b0)), (.int .i64 (b1)), (.int .i64 (b2))])] =
 lp k spec_l17Outer [] [] 2 k (qmg (0 : Int) a1z a1 a0 b0 b1 b2) := by kernel_rfl
theorem qh9 (k n : Nat) (fu : List (Nat × Nat)) (x0 : Int) (z1 : Bool) (l2 : List (Int × Int × Int)) (x3 x4 x5 x6 : Int) : lp k spec_l17Outer [] fu 2 (n + 1) (qmg x0 z1 l2 x3 x4 x5 x6) =
 cond (decide (x0 < nI (List.length l2)))
 (cond (decide ((0 : Int) ≤ x0) && decide (x0 < nI (List.length l2)))
 ((go k spec_Contains [(.agg [(.int .i64 (Prod.fst (List.getD l2 (Int.toNat x0) zz3))), (.int .i64 (Prod.fst (Prod.snd (List.getD l2 (Int.toNat x0) zz3)))), (.int .i64 (Prod.snd (Prod.snd (List.getD l2 (Int.toNat x0) zz3))))]), (.agg [(.int .i64 (x4)), (.int .i64 (x5)), (.int .i64 (x6))])]).bind fun r0 =>
 cond (bit (nth r0 0))
 (some [(.int .i64 (x0))])
 (lp k spec_l17Outer [] fu 2 n (qmg (IntKind.wrap .i64 (x0 + (1 : Int))) z1 l2 x3 x4 x5 x6)))
 (none))
 (some [(.int .i64 ((-1 : Int)))]) := by kernel_rfl
def qmf (x0 x1 : Int) (z2 : Bool) (l3 : List (Int × Int × Int)) (x4 x5 x6 x7 : Int) : St := ⟨fill 42 [(2, (.ptr 1 (0) (0))), (3, (.ptr 2 (0) (0))), (5, (.int .i64 (x0))), (6, (.int .i64 (x1)))], [], [(.arr false (z2) (.r3 (l3))), (.box true [(.int .i64 (x4)), (.sl 0 none)]), (.box true [(.int .i64 (x5)), (.int .i64 (x6)), (.int .i64 (x7))])]⟩
theorem qgl (k : Nat) (a0 : Int) (a1z : Bool) (a1 : List (Int × Int × Int)) (b0 b1 b2 : Int) : go (k + 1) spec_l17Deepest [(.agg [(.int .i64 (a0)), (.arr false (a1z) (.r3 (a1)))]), (.agg [(.int .i64 (b0)), (.int .i64 (b1)), (.int .i64 (b2))])] =
 lp k spec_l17Deepest [] [] 3 k (qmf ((-1 : Int)) (0 : Int) a1z a1 a0 b0 b1 b2) := by kernel_rfl
theorem qh8 (k n : Nat) (fu : List (Nat × Nat)) (x0 x1 : Int) (z2 : Bool) (l3 : List (Int × Int × Int)) (x4 x5 x6 x7 : Int) : lp k spec_l17Deepest [] fu 3 (n + 1) (qmf x0 x1 z2 l3 x4 x5 x6 x7) =
 cond (decide (x1 < nI (List.length l3)))
 (cond (decide ((0 : Int) ≤ x1) && decide (x1 < nI (List.length l3)))
 ((go k spec_Contains [(.agg [(.int .i64 (x5)), (.int .i64 (x6)), (.int .i64 (x7))]), (.agg [(.int .i64 (Prod.fst (List.getD l3 (Int.toNat x1) zz3))), (.int .i64 (Prod.fst (Prod.snd (List.getD l3 (Int.toNat x1) zz3)))), (.int .i64 (Prod.snd (Prod.snd (List.getD l3 (Int.toNat x1) zz3))))])]).bind fun r0 =>
 cond (bit (nth r0 0))
 (cond (decide (x0 < (0 : Int)))
 (lp k spec_l17Deepest [] fu 3 n (qmf x1 (IntKind.wrap .i64 (x1 + (1 : Int))) z2 l3 x4 x5 x6 x7))
 (cond (decide ((0 : Int) ≤ x1) && decide (x1 < nI (List.length l3)))
 (cond (decide ((0 : Int) ≤ x0) && decide (x0 < nI (List.length l3)))
 (cond (decide (Prod.fst (Prod.snd (List.getD l3 (Int.toNat x0) zz3)) < Prod.fst (Prod.snd (List.getD l3 (Int.toNat x1) zz3))))
 (lp k spec_l17Deepest [] fu 3 n (qmf x1 (IntKind.wrap .i64 (x1 + (1 : Int))) z2 l3 x4 x5 x6 x7))
 (lp k spec_l17Deepest [] fu 3 n (qmf x0 (IntKind.wrap .i64 (x1 + (1 : Int))) z2 l3 x4 x5 x6 x7)))
 (none))
 (none)))
 (lp k spec_l17Deepest [] fu 3 n (qmf x0 (IntKind.wrap .i64 (x1 + (1 : Int))) z2 l3 x4 x5 x6 x7)))
 (none))
 (some [(.int .i64 (x0))]) := by kernel_rfl
theorem qf9 (k : Nat) (a0 : Int) (a1z : Bool) (a1 : List (Int × Int × Int)) (a2z : Bool) (a2 : List Int) (a3z : Bool) (a3 : List Int) (a4z : Bool) (a4 : List Int) (b : Int) : go (k + 1) spec_UniformOf [(.agg [(.int .i64 (a0)), (.arr false (a1z) (.r3 (a1))), (.arr false (a2z) (.ints .i64 (a2))), (.arr false (a3z) (.ints .i64 (a3))), (.arr false (a4z) (.ints .i64 (a4)))]), (.int .i64 (b))] =
 (go k spec_MeshNew [(.int .i64 (a0)), (.int .i64 (b))]).bind fun r0 =>
 cond (!bit (nth r0 1))
 (some [(.agg [(.int .i64 (0 : Int)), (.arr true (true) (.r3 ([]))), (.arr true (true) (.ints .i64 ([]))), (.arr true (true) (.ints .i64 ([]))), (.arr true (true) (.ints .i64 ([])))]), (.bool (false))])
 ((go k spec_RemapState [(.agg [(.int .i64 (a0)), (.arr false (a1z) (.r3 (a1))), (.arr false (a2z) (.ints .i64 (a2))), (.arr false (a3z) (.ints .i64 (a3))), (.arr false (a4z) (.ints .i64 (a4)))]), (.agg [(.int .i64 (D.toInt (D.cell 0 (nth r0 0)))), (.arr false (D.nil (D.cell 1 (nth r0 0))) (.r3 (D.r3 (D.cell 1 (nth r0 0)))))])]).bind fun r1 =>
 some [(.agg [(.int .i64 (D.toInt (D.cell 0 (nth r1 0)))), (.arr true (D.nil (D.cell 1 (nth r1 0))) (.r3 (D.r3 (D.cell 1 (nth r1 0))))), (.arr true (D.nil (D.cell 2 (nth r1 0))) (.ints .i64 (D.ints (D.cell 2 (nth r1 0))))), (.arr true (D.nil (D.cell 3 (nth r1 0))) (.ints .i64 (D.ints (D.cell 3 (nth r1 0))))), (.arr true (D.nil (D.cell 4 (nth r1 0))) (.ints .i64 (D.ints (D.cell 4 (nth r1 0)))))]), (.bool (bit (nth r1 1)))]) := by kernel_rfl

end Go.Proofs.YtfgccfajhedgdaaGreat
end
section
namespace Go.Proofs.YtfgccfajhedgdaaGreat
open Go.Ev
set_option maxRecDepth 20000
abbrev qdk (x : Cell) : D := .agg [.int .i64 x.1, .int .i64 x.2.1, .int .i64 x.2.2]
theorem qdw {x y : Cell} (hx : cid x = true) (hy : cid y = true) (h : x.2.1 ≤ y.2.1) : Int.fdiv y.2.2 ((2 : Int) ^ shiftN .i64 (y.2.1 - x.2.1)) = y.2.2 / pow2 (y.2.1 - x.2.1) := by
  have a := qg4 hx; have b := qg4 hy
  have a3 := qg5.1 a.2.2.1; have b3 := qg5.1 b.2.2.1
  rw [shp (qg5.2 (by omega))]
  have p : 0 ≤ pow2 (y.2.1 - x.2.1) := by
    rcases lev (qg5.2 (show 0 ≤ y.2.1 - x.2.1 ∧ y.2.1 - x.2.1 ≤ 4 by omega)) with e | e | e | e | e <;> rw [e] <;> decide
  exact Int.fdiv_eq_ediv_of_nonneg _ p
theorem qaj (k : Nat) (hk : 2000000 ≤ k) (x y : Cell) : go (k + 4) impl_Contains [qdk x, qdk y] = some [.bool (cov x y)] := by
  rw [qd5]
  unfold cov
  cases hx : cid x
  · simp (disch := omega) only [qaf, nth0, nth1, nth2, nth3, bit, qcw, qcx, qc8, qdd, qde, qdf, qdg, qdh, qdi, qdj, qcy, qcz, qc0, qc1, qc2, qc3, qc4, qc5, qc6, qc7, qc9, qda, qdb, qdc, qni, qnh, qnj, qkc, qky, qkz, qg6, qag, qm5, nI, qds, qdq, Bool.not_true, Bool.not_false, Bool.and_true, Bool.true_and, Bool.and_false, Bool.false_and, Bool.or_true, Bool.true_or, Bool.or_false, Bool.false_or, beq_self_eq_true, dTT, dFF, dT, dF, bigI, big0, qkb, qn6, qn7, List.length_set, List.length_replicate, Int.toNat_natCast, qcu, qcv, imax, imin, qak, hx]
  cases hy : cid y
  · simp (disch := omega) only [qaf, nth0, nth1, nth2, nth3, bit, qcw, qcx, qc8, qdd, qde, qdf, qdg, qdh, qdi, qdj, qcy, qcz, qc0, qc1, qc2, qc3, qc4, qc5, qc6, qc7, qc9, qda, qdb, qdc, qni, qnh, qnj, qkc, qky, qkz, qg6, qag, qm5, nI, qds, qdq, Bool.not_true, Bool.not_false, Bool.and_true, Bool.true_and, Bool.and_false, Bool.false_and, Bool.or_true, Bool.true_or, Bool.or_false, Bool.false_or, beq_self_eq_true, dTT, dFF, dT, dF, bigI, big0, qkb, qn6, qn7, List.length_set, List.length_replicate, Int.toNat_natCast, qcu, qcv, imax, imin, qak, hx, hy]
  have a := qg4 hx; have b := qg4 hy
  have a3 := qg5.1 a.2.2.1; have b3 := qg5.1 b.2.2.1
  by_cases h1 : x.1 = y.1
  case neg => simp (disch := omega) only [qaf, nth0, nth1, nth2, nth3, bit, qcw, qcx, qc8, qdd, qde, qdf, qdg, qdh, qdi, qdj, qcy, qcz, qc0, qc1, qc2, qc3, qc4, qc5, qc6, qc7, qc9, qda, qdb, qdc, qni, qnh, qnj, qkc, qky, qkz, qg6, qag, qm5, nI, qds, qdq, Bool.not_true, Bool.not_false, Bool.and_true, Bool.true_and, Bool.and_false, Bool.false_and, Bool.or_true, Bool.true_or, Bool.or_false, Bool.false_or, beq_self_eq_true, dTT, dFF, dT, dF, bigI, big0, qkb, qn6, qn7, List.length_set, List.length_replicate, Int.toNat_natCast, qcu, qcv, imax, imin, qak, hx, hy]
  by_cases h2 : x.2.1 ≤ y.2.1
  case neg => simp (disch := omega) only [qaf, nth0, nth1, nth2, nth3, bit, qcw, qcx, qc8, qdd, qde, qdf, qdg, qdh, qdi, qdj, qcy, qcz, qc0, qc1, qc2, qc3, qc4, qc5, qc6, qc7, qc9, qda, qdb, qdc, qni, qnh, qnj, qkc, qky, qkz, qg6, qag, qm5, nI, qds, qdq, Bool.not_true, Bool.not_false, Bool.and_true, Bool.true_and, Bool.and_false, Bool.false_and, Bool.or_true, Bool.true_or, Bool.or_false, Bool.false_or, beq_self_eq_true, dTT, dFF, dT, dF, bigI, big0, qkb, qn6, qn7, List.length_set, List.length_replicate, Int.toNat_natCast, qcu, qcv, imax, imin, qak, hx, hy]
  have e := qdw hx hy h2
  simp (disch := omega) only [qaf, nth0, nth1, nth2, nth3, bit, qcw, qcx, qc8, qdd, qde, qdf, qdg, qdh, qdi, qdj, qcy, qcz, qc0, qc1, qc2, qc3, qc4, qc5, qc6, qc7, qc9, qda, qdb, qdc, qni, qnh, qnj, qkc, qky, qkz, qg6, qag, qm5, nI, qds, qdq, Bool.not_true, Bool.not_false, Bool.and_true, Bool.true_and, Bool.and_false, Bool.false_and, Bool.or_true, Bool.true_or, Bool.or_false, Bool.false_or, beq_self_eq_true, dTT, dFF, dT, dF, bigI, big0, qkb, qn6, qn7, List.length_set, List.length_replicate, Int.toNat_natCast, qcu, qcv, imax, imin, qak, hx, hy, e]
theorem qja (k : Nat) (hk : 2000000 ≤ k) (fu : List (Nat × Nat)) (z : Bool) (l : List Cell) (x : Cell) (hl : l.length ≤ 1048576) : ∀ (N i : Nat), i ≤ l.length → l.length - i < N →
    lp k slices_Index_impl_Id_impl_Id [] fu 2 (N) (ql5 (l.length : Int) (i : Int) z l x.1 x.2.1 x.2.2) = some [.int .i64 (qid x (l.drop i) i)]
  | 0, i, hi, hN => by omega
  | N + 1, i, hi, hN => by
    rw [qhy]
    by_cases g : i < l.length
    · have IH := qja k hk fu z l x hl N (i + 1) (by omega) (by omega)
      rw [qd3 g zz3, qid]
      by_cases h : l.getD i zz3 = x
      · rw [if_pos h]; simp (disch := omega) only [qaf, nth0, nth1, nth2, nth3, bit, qcw, qcx, qc8, qdd, qde, qdf, qdg, qdh, qdi, qdj, qcy, qcz, qc0, qc1, qc2, qc3, qc4, qc5, qc6, qc7, qc9, qda, qdb, qdc, qni, qnh, qnj, qkc, qky, qkz, qg6, qag, qm5, nI, qds, qdq, Bool.not_true, Bool.not_false, Bool.and_true, Bool.true_and, Bool.and_false, Bool.false_and, Bool.or_true, Bool.true_or, Bool.or_false, Bool.false_or, beq_self_eq_true, dTT, dFF, dT, dF, bigI, big0, qkb, qn6, qn7, List.length_set, List.length_replicate, Int.toNat_natCast, qcu, qcv, imax, imin, h]
      · rw [if_neg h]
        have : (decide (x.1 = (l.getD i zz3).1) && (decide (x.2.1 = (l.getD i zz3).2.1) && decide (x.2.2 = (l.getD i zz3).2.2))) = false := by
          rw [← Bool.not_eq_true]
          intro e
          simp only [Bool.and_eq_true, decide_eq_true_eq] at e
          exact h (Prod.ext e.1.symm (Prod.ext e.2.1.symm e.2.2.symm))
        simp (disch := omega) only [qaf, nth0, nth1, nth2, nth3, bit, qcw, qcx, qc8, qdd, qde, qdf, qdg, qdh, qdi, qdj, qcy, qcz, qc0, qc1, qc2, qc3, qc4, qc5, qc6, qc7, qc9, qda, qdb, qdc, qni, qnh, qnj, qkc, qky, qkz, qg6, qag, qm5, nI, qds, qdq, Bool.not_true, Bool.not_false, Bool.and_true, Bool.true_and, Bool.and_false, Bool.false_and, Bool.or_true, Bool.true_or, Bool.or_false, Bool.false_or, beq_self_eq_true, dTT, dFF, dT, dF, bigI, big0, qkb, qn6, qn7, List.length_set, List.length_replicate, Int.toNat_natCast, qcu, qcv, imax, imin, this, IH]
    · rw [List.drop_of_length_le (by omega)]; simp (disch := omega) only [qaf, nth0, nth1, nth2, nth3, bit, qcw, qcx, qc8, qdd, qde, qdf, qdg, qdh, qdi, qdj, qcy, qcz, qc0, qc1, qc2, qc3, qc4, qc5, qc6, qc7, qc9, qda, qdb, qdc, qni, qnh, qnj, qkc, qky, qkz, qg6, qag, qm5, nI, qds, qdq, Bool.not_true, Bool.not_false, Bool.and_true, Bool.true_and, Bool.and_false, Bool.false_and, Bool.or_true, Bool.true_or, Bool.or_false, Bool.false_or, beq_self_eq_true, dTT, dFF, dT, dF, bigI, big0, qkb, qn6, qn7, List.length_set, List.length_replicate, Int.toNat_natCast, qcu, qcv, imax, imin]; rfl
theorem qam (k : Nat) (hk : 2000000 ≤ k) (r : Int) (z : Bool) (l : List Cell) (x : Cell) (hl : l.length ≤ 1048576) : go (k + 2) impl_LeafOf [.agg [.int .i64 r, .arr false z (.r3 l)], qdk x] = some [.int .i64 (lof l x)] := by
  have e := qja k (by omega) [] z l x hl (k + 0) 0 (by omega) (by omega)
  rw [show ((0 : Nat) : Int) = 0 from rfl] at e
  simp only [Nat.add_zero, List.drop_zero] at e
  rw [qd8]
  simp (disch := omega) only [qaf, nth0, nth1, nth2, nth3, bit, qcw, qcx, qc8, qdd, qde, qdf, qdg, qdh, qdi, qdj, qcy, qcz, qc0, qc1, qc2, qc3, qc4, qc5, qc6, qc7, qc9, qda, qdb, qdc, qni, qnh, qnj, qkc, qky, qkz, qg6, qag, qm5, nI, qds, qdq, Bool.not_true, Bool.not_false, Bool.and_true, Bool.true_and, Bool.and_false, Bool.false_and, Bool.or_true, Bool.true_or, Bool.or_false, Bool.false_or, beq_self_eq_true, dTT, dFF, dT, dF, bigI, big0, qkb, qn6, qn7, List.length_set, List.length_replicate, Int.toNat_natCast, qcu, qcv, imax, imin, qfv, e]
  rfl
theorem qi9 (k : Nat) (hk : 2000000 ≤ k) (fu : List (Nat × Nat)) (z : Bool) (l : List Cell) (x : Cell) (hl : l.length ≤ 1048576) : ∀ (N i : Nat), i ≤ l.length → l.length - i < N →
    lp (k + 5) slices_IndexFunc_impl_Id_impl_Id [] fu 2 (N) (ql3 (l.length : Int) (i : Int) z l x.1 x.2.1 x.2.2) = some [.int .i64 (fstG (fun y => cov y x) (l.drop i) i)]
  | 0, i, hi, hN => by omega
  | N + 1, i, hi, hN => by
    rw [qhw]
    by_cases g : i < l.length
    · have IH := qi9 k hk fu z l x hl N (i + 1) (by omega) (by omega)
      rw [qd3 g zz3, fstG]
      by_cases h : cov (l.getD i zz3) x = true
      · rw [if_pos h]; simp (disch := omega) only [qaf, nth0, nth1, nth2, nth3, bit, qcw, qcx, qc8, qdd, qde, qdf, qdg, qdh, qdi, qdj, qcy, qcz, qc0, qc1, qc2, qc3, qc4, qc5, qc6, qc7, qc9, qda, qdb, qdc, qni, qnh, qnj, qkc, qky, qkz, qg6, qag, qm5, nI, qds, qdq, Bool.not_true, Bool.not_false, Bool.and_true, Bool.true_and, Bool.and_false, Bool.false_and, Bool.or_true, Bool.true_or, Bool.or_false, Bool.false_or, beq_self_eq_true, dTT, dFF, dT, dF, bigI, big0, qkb, qn6, qn7, List.length_set, List.length_replicate, Int.toNat_natCast, qcu, qcv, imax, imin, qeq, qaj, h]
      · rw [if_neg h]
        have h : cov (l.getD i zz3) x = false := by simpa using h
        simp (disch := omega) only [qaf, nth0, nth1, nth2, nth3, bit, qcw, qcx, qc8, qdd, qde, qdf, qdg, qdh, qdi, qdj, qcy, qcz, qc0, qc1, qc2, qc3, qc4, qc5, qc6, qc7, qc9, qda, qdb, qdc, qni, qnh, qnj, qkc, qky, qkz, qg6, qag, qm5, nI, qds, qdq, Bool.not_true, Bool.not_false, Bool.and_true, Bool.true_and, Bool.and_false, Bool.false_and, Bool.or_true, Bool.true_or, Bool.or_false, Bool.false_or, beq_self_eq_true, dTT, dFF, dT, dF, bigI, big0, qkb, qn6, qn7, List.length_set, List.length_replicate, Int.toNat_natCast, qcu, qcv, imax, imin, qeq, qaj, h, IH]
    · rw [List.drop_of_length_le (by omega)]; simp (disch := omega) only [qaf, nth0, nth1, nth2, nth3, bit, qcw, qcx, qc8, qdd, qde, qdf, qdg, qdh, qdi, qdj, qcy, qcz, qc0, qc1, qc2, qc3, qc4, qc5, qc6, qc7, qc9, qda, qdb, qdc, qni, qnh, qnj, qkc, qky, qkz, qg6, qag, qm5, nI, qds, qdq, Bool.not_true, Bool.not_false, Bool.and_true, Bool.true_and, Bool.and_false, Bool.false_and, Bool.or_true, Bool.true_or, Bool.or_false, Bool.false_or, beq_self_eq_true, dTT, dFF, dT, dF, bigI, big0, qkb, qn6, qn7, List.length_set, List.length_replicate, Int.toNat_natCast, qcu, qcv, imax, imin]; rfl
theorem qir (k : Nat) (hk : 2000000 ≤ k) (fu : List (Nat × Nat)) (z z' : Bool) (l m : List Cell) (r : Int) (hl : l.length ≤ 1048576) (hm : m.length ≤ 1048576) : ∀ (N i : Nat), i ≤ l.length → l.length - i < N →
    lp (k + 5) slices_IndexFunc_impl_Id_impl_Id [] fu 2 (N) (ql2 (l.length : Int) (i : Int) z l z' m r) = some [.int .i64 (fstG (fun x => decide (lof m x < 0)) (l.drop i) i)]
  | 0, i, hi, hN => by omega
  | N + 1, i, hi, hN => by
    rw [qhv]
    by_cases g : i < l.length
    · have IH := qir k hk fu z z' l m r hl hm N (i + 1) (by omega) (by omega)
      rw [qd3 g zz3, fstG]
      by_cases h : lof m (l.getD i zz3) < 0
      · rw [if_pos (dT h)]; simp (disch := omega) only [qaf, nth0, nth1, nth2, nth3, bit, qcw, qcx, qc8, qdd, qde, qdf, qdg, qdh, qdi, qdj, qcy, qcz, qc0, qc1, qc2, qc3, qc4, qc5, qc6, qc7, qc9, qda, qdb, qdc, qni, qnh, qnj, qkc, qky, qkz, qg6, qag, qm5, nI, qds, qdq, Bool.not_true, Bool.not_false, Bool.and_true, Bool.true_and, Bool.and_false, Bool.false_and, Bool.or_true, Bool.true_or, Bool.or_false, Bool.false_or, beq_self_eq_true, dTT, dFF, dT, dF, bigI, big0, qkb, qn6, qn7, List.length_set, List.length_replicate, Int.toNat_natCast, qcu, qcv, imax, imin, qeg, qam, h]
      · rw [if_neg (by rw [dF h]; decide)]
        simp (disch := omega) only [qaf, nth0, nth1, nth2, nth3, bit, qcw, qcx, qc8, qdd, qde, qdf, qdg, qdh, qdi, qdj, qcy, qcz, qc0, qc1, qc2, qc3, qc4, qc5, qc6, qc7, qc9, qda, qdb, qdc, qni, qnh, qnj, qkc, qky, qkz, qg6, qag, qm5, nI, qds, qdq, Bool.not_true, Bool.not_false, Bool.and_true, Bool.true_and, Bool.and_false, Bool.false_and, Bool.or_true, Bool.true_or, Bool.or_false, Bool.false_or, beq_self_eq_true, dTT, dFF, dT, dF, bigI, big0, qkb, qn6, qn7, List.length_set, List.length_replicate, Int.toNat_natCast, qcu, qcv, imax, imin, qeg, qam, h, IH]
    · rw [List.drop_of_length_le (by omega)]; simp (disch := omega) only [qaf, nth0, nth1, nth2, nth3, bit, qcw, qcx, qc8, qdd, qde, qdf, qdg, qdh, qdi, qdj, qcy, qcz, qc0, qc1, qc2, qc3, qc4, qc5, qc6, qc7, qc9, qda, qdb, qdc, qni, qnh, qnj, qkc, qky, qkz, qg6, qag, qm5, nI, qds, qdq, Bool.not_true, Bool.not_false, Bool.and_true, Bool.true_and, Bool.and_false, Bool.false_and, Bool.or_true, Bool.true_or, Bool.or_false, Bool.false_or, beq_self_eq_true, dTT, dFF, dT, dF, bigI, big0, qkb, qn6, qn7, List.length_set, List.length_replicate, Int.toNat_natCast, qcu, qcv, imax, imin]; rfl
end Go.Proofs.YtfgccfajhedgdaaGreat
end
section
namespace Go.Proofs.YtfgccfajhedgdaaGreat
open Go.Ev
set_option maxRecDepth 20000
theorem qiu (k : Nat) (hk : 2000000 ≤ k) (fu : List (Nat × Nat)) (L p : Nat) (R : Int) (w : Nat) (hw : 1 ≤ w ∧ w ≤ 16) (hp : p ≤ 7) (z6 : Bool) (l7 : List Cell) (x8 x11 : Int) (acc : List Cell) (ha : acc.length ≤ 1000) : ∀ (N i : Nat) (z : Bool), i ≤ w → w - i < N → (z = false ∨ i = 0) →
    lp (k + 2) impl_MeshNew [] fu 8 (N) (qln (L : Int) (p : Int) R (p : Int) (w : Int) (i : Int) z6 l7 x8 z (acc ++ rowN (p : Int) (L : Int) i) x11) = lp (k + 2) impl_MeshNew [] fu 5 (fuelOf fu 5) (qlm (L : Int) R ((p + 1 : Nat) : Int) z6 l7 x8 false (acc ++ rowN (p : Int) (L : Int) w) x11)
  | 0, i, z, hi, hN, hz => by omega
  | N + 1, i, z, hi, hN, hz => by
    rw [qhg]
    by_cases g : i < w
    · have IH := qiu k hk fu L p R w hw hp z6 l7 x8 x11 acc ha N (i + 1) false (by omega) (by omega) (Or.inl rfl)
      have e : acc ++ rowN (p : Int) (L : Int) (i + 1) = acc ++ rowN (p : Int) (L : Int) i ++ [((p : Int), (L : Int), (i : Int))] := by rw [rowN, List.append_assoc]
      rw [e] at IH
      have la : (acc ++ rowN (p : Int) (L : Int) i ++ [((p : Int), (L : Int), (i : Int))]).length = acc.length + i + 1 := by rw [List.length_append, List.length_append, qll]; rfl
      simp (disch := omega) only [qaf, nth0, nth1, nth2, nth3, bit, qcw, qcx, qc8, qdd, qde, qdf, qdg, qdh, qdi, qdj, qcy, qcz, qc0, qc1, qc2, qc3, qc4, qc5, qc6, qc7, qc9, qda, qdb, qdc, qni, qnh, qnj, qkc, qky, qkz, qg6, qag, qm5, nI, qds, qdq, Bool.not_true, Bool.not_false, Bool.and_true, Bool.true_and, Bool.and_false, Bool.false_and, Bool.or_true, Bool.true_or, Bool.or_false, Bool.false_or, beq_self_eq_true, dTT, dFF, dT, dF, bigI, big0, qkb, qn6, qn7, List.length_set, List.length_replicate, Int.toNat_natCast, qcu, qcv, imax, imin, la, Bool.and_false, IH]
    · have hi' : i = w := by omega
      subst hi'
      have hz' : z = false := hz.elim id (fun h => absurd h (by omega))
      subst hz'
      simp (disch := omega) only [qaf, nth0, nth1, nth2, nth3, bit, qcw, qcx, qc8, qdd, qde, qdf, qdg, qdh, qdi, qdj, qcy, qcz, qc0, qc1, qc2, qc3, qc4, qc5, qc6, qc7, qc9, qda, qdb, qdc, qni, qnh, qnj, qkc, qky, qkz, qg6, qag, qm5, nI, qds, qdq, Bool.not_true, Bool.not_false, Bool.and_true, Bool.true_and, Bool.and_false, Bool.false_and, Bool.or_true, Bool.true_or, Bool.or_false, Bool.false_or, beq_self_eq_true, dTT, dFF, dT, dF, bigI, big0, qkb, qn6, qn7, List.length_set, List.length_replicate, Int.toNat_natCast, qcu, qcv, imax, imin]
theorem qnk {L : Nat} (hL : L ≤ 4) : (1 ≤ 2 ^ L ∧ 2 ^ L ≤ 16) ∧ pow2 (L : Int) = ((2 ^ L : Nat) : Int) := by
  obtain h | h | h | h | h : L = 0 ∨ L = 1 ∨ L = 2 ∨ L = 3 ∨ L = 4 := by omega
  all_goals subst h; decide
theorem qit (k : Nat) (hk : 2000000 ≤ k) (L R : Nat) (hL : L ≤ 4) (hR : 1 ≤ R ∧ R ≤ 8) (z3 : Bool) (l4 : List Cell) (x5 : Int) : ∀ (N : Nat) (fu : List (Nat × Nat)) (p : Nat) (z : Bool), p ≤ R → R - p < N → (z = false ∨ p = 0) →
    lp (k + 2) impl_MeshNew [] fu 5 (N) (qlm (L : Int) (R : Int) (p : Int) z3 l4 x5 z (uni (L : Int) (2 ^ L) p) (R : Int)) = some [.agg [.int .i64 (R : Int), .arr true false (.r3 (uni (L : Int) (2 ^ L) R))], .bool true]
  | 0, fu, p, z, hp, hN, hz => by omega
  | N + 1, fu, p, z, hp, hN, hz => by
    rw [qhf]
    have w16 := qnk hL
    by_cases g : p < R
    · have ul : (uni (L : Int) (2 ^ L) p).length ≤ 1000 := by
        rw [qns]
        calc p * 2 ^ L ≤ 8 * 16 := Nat.mul_le_mul (by omega) w16.1.2
          _ ≤ 1000 := by decide
      have e := qiu k hk ((5, N) :: fu) L p (R : Int) (2 ^ L) w16.1 (by omega) z3 l4 x5 (R : Int) (uni (L : Int) (2 ^ L) p) ul (k + 2) 0 z (by omega) (by omega) (Or.inr rfl)
      have e2 := qit k hk L R hL hR z3 l4 x5 N ((5, N) :: fu) (p + 1) false (by omega) (by omega) (Or.inl rfl)
      rw [qgx, show uni (L : Int) (2 ^ L) p ++ rowN (p : Int) (L : Int) 0 = uni (L : Int) (2 ^ L) p from List.append_nil _, show uni (L : Int) (2 ^ L) p ++ rowN (p : Int) (L : Int) (2 ^ L) = uni (L : Int) (2 ^ L) (p + 1) from rfl, show ((0 : Nat) : Int) = 0 from rfl] at e
      have ep : IntKind.wrap .i64 ((1 : Int) * (2 : Int) ^ shiftN .i64 (L : Int)) = ((2 ^ L : Nat) : Int) := (pw (qg5.2 (by omega))).trans w16.2
      simp (disch := omega) only [qaf, nth0, nth1, nth2, nth3, bit, qcw, qcx, qc8, qdd, qde, qdf, qdg, qdh, qdi, qdj, qcy, qcz, qc0, qc1, qc2, qc3, qc4, qc5, qc6, qc7, qc9, qda, qdb, qdc, qni, qnh, qnj, qkc, qky, qkz, qg6, qag, qm5, nI, qds, qdq, Bool.not_true, Bool.not_false, Bool.and_true, Bool.true_and, Bool.and_false, Bool.false_and, Bool.or_true, Bool.true_or, Bool.or_false, Bool.false_or, beq_self_eq_true, dTT, dFF, dT, dF, bigI, big0, qkb, qn6, qn7, List.length_set, List.length_replicate, Int.toNat_natCast, qcu, qcv, imax, imin, ep]
      exact e.trans e2
    · have hp' : p = R := by omega
      subst hp'
      have hz' : z = false := hz.elim id (fun h => absurd h (by omega))
      subst hz'
      simp (disch := omega) only [qaf, nth0, nth1, nth2, nth3, bit, qcw, qcx, qc8, qdd, qde, qdf, qdg, qdh, qdi, qdj, qcy, qcz, qc0, qc1, qc2, qc3, qc4, qc5, qc6, qc7, qc9, qda, qdb, qdc, qni, qnh, qnj, qkc, qky, qkz, qg6, qag, qm5, nI, qds, qdq, Bool.not_true, Bool.not_false, Bool.and_true, Bool.true_and, Bool.and_false, Bool.false_and, Bool.or_true, Bool.true_or, Bool.or_false, Bool.false_or, beq_self_eq_true, dTT, dFF, dT, dF, bigI, big0, qkb, qn6, qn7, List.length_set, List.length_replicate, Int.toNat_natCast, qcu, qcv, imax, imin]
theorem qan (k : Nat) (hk : 2000000 ≤ k) (a b : Int) : go (k + 3) impl_MeshNew [.int .i64 a, .int .i64 b] = cond (inR a 1 8 && inR b 0 4) (some [.agg [.int .i64 a, .arr true false (.r3 (uni b (2 ^ b.toNat) a.toNat))], .bool true]) (some [.agg [.int .i64 0, .arr true true (.r3 [])], .bool false]) := by
  rw [qd9]
  cases g : inR a 1 8
  · simp (disch := omega) only [qaf, nth0, nth1, nth2, nth3, bit, qcw, qcx, qc8, qdd, qde, qdf, qdg, qdh, qdi, qdj, qcy, qcz, qc0, qc1, qc2, qc3, qc4, qc5, qc6, qc7, qc9, qda, qdb, qdc, qni, qnh, qnj, qkc, qky, qkz, qg6, qag, qm5, nI, qds, qdq, Bool.not_true, Bool.not_false, Bool.and_true, Bool.true_and, Bool.and_false, Bool.false_and, Bool.or_true, Bool.true_or, Bool.or_false, Bool.false_or, beq_self_eq_true, dTT, dFF, dT, dF, bigI, big0, qkb, qn6, qn7, List.length_set, List.length_replicate, Int.toNat_natCast, qcu, qcv, imax, imin, qbb, g]
  cases g2 : inR b 0 4
  · simp (disch := omega) only [qaf, nth0, nth1, nth2, nth3, bit, qcw, qcx, qc8, qdd, qde, qdf, qdg, qdh, qdi, qdj, qcy, qcz, qc0, qc1, qc2, qc3, qc4, qc5, qc6, qc7, qc9, qda, qdb, qdc, qni, qnh, qnj, qkc, qky, qkz, qg6, qag, qm5, nI, qds, qdq, Bool.not_true, Bool.not_false, Bool.and_true, Bool.true_and, Bool.and_false, Bool.false_and, Bool.or_true, Bool.true_or, Bool.or_false, Bool.false_or, beq_self_eq_true, dTT, dFF, dT, dF, bigI, big0, qkb, qn6, qn7, List.length_set, List.length_replicate, Int.toNat_natCast, qcu, qcv, imax, imin, qbb, g, qa6, g2]
  have h1 := qg5.1 g; have h2 := qg5.1 g2
  obtain ⟨R, rfl⟩ : ∃ R : Nat, a = (R : Int) := ⟨a.toNat, by omega⟩
  obtain ⟨L, rfl⟩ : ∃ L : Nat, b = (L : Int) := ⟨b.toNat, by omega⟩
  have e := qit k hk L R (by omega) (by omega) true [] 0 (k + 2) [] 0 true (by omega) (by omega) (Or.inr rfl)
  rw [show ((0 : Nat) : Int) = 0 from rfl, show uni (L : Int) (2 ^ L) 0 = [] from rfl] at e
  simp (disch := omega) only [qaf, nth0, nth1, nth2, nth3, bit, qcw, qcx, qc8, qdd, qde, qdf, qdg, qdh, qdi, qdj, qcy, qcz, qc0, qc1, qc2, qc3, qc4, qc5, qc6, qc7, qc9, qda, qdb, qdc, qni, qnh, qnj, qkc, qky, qkz, qg6, qag, qm5, nI, qds, qdq, Bool.not_true, Bool.not_false, Bool.and_true, Bool.true_and, Bool.and_false, Bool.false_and, Bool.or_true, Bool.true_or, Bool.or_false, Bool.false_or, beq_self_eq_true, dTT, dFF, dT, dF, bigI, big0, qkb, qn6, qn7, List.length_set, List.length_replicate, Int.toNat_natCast, qcu, qcv, imax, imin, qbb, g, qa6, g2]
  exact e
end Go.Proofs.YtfgccfajhedgdaaGreat
end
section
namespace Go.Proofs.YtfgccfajhedgdaaGreat
open Go.Ev
set_option maxRecDepth 20000
theorem qnu (o : Bool) (d0 : D) (l : List D) : (D.ptr o (d0 :: l)).cell 0 = d0 := Eq.trans rfl rfl
theorem qnv (o : Bool) (d0 d1 : D) (l : List D) : (D.ptr o (d0 :: d1 :: l)).cell 1 = d1 := Eq.trans rfl rfl
theorem qnw (o : Bool) (d0 d1 d2 : D) (l : List D) : (D.ptr o (d0 :: d1 :: d2 :: l)).cell 2 = d2 := Eq.trans rfl rfl
theorem qnx (o : Bool) (d0 d1 d2 d3 : D) (l : List D) : (D.ptr o (d0 :: d1 :: d2 :: d3 :: l)).cell 3 = d3 := Eq.trans rfl rfl
theorem qny (o : Bool) (d0 d1 d2 d3 d4 : D) (l : List D) : (D.ptr o (d0 :: d1 :: d2 :: d3 :: d4 :: l)).cell 4 = d4 := Eq.trans rfl rfl
theorem qix (k : Nat) (hk : 2000000 ≤ k) (fu : List (Nat × Nat)) (a0 : Int) (a1z : Bool) (a1 : List Cell) (a2z : Bool) (a2 : List Int) (a3z : Bool) (a3 : List Int) (a4z : Bool) (a4 : List Int) (r r' : Int) (s : S3) (b : List Int) (z : Bool) (m : List Cell) (q : Nat) (hq : q < m.length) (hl : s.1.length ≤ 128) (j : Nat) (t : S3)
    (eC : go (k + 6) impl_State_coarsen [.ptr true [.int .i64 (r), .arr true (false) (.r3 (s.1)), .arr true (false) (.ints .i64 (s.2.1)), .arr true (false) (.ints .i64 (s.2.2)), .arr true (false) (.ints .i64 (b))], .int .i64 (j : Int)] = some [.ptr true [.int .i64 (r), .arr true (false) (.r3 (t.1)), .arr true (false) (.ints .i64 (t.2.1)), .arr true (false) (.ints .i64 (t.2.2)), .arr true (false) (.ints .i64 (b))]]) (hm : m.length ≤ 128) : ∀ (N i : Nat) (best : Int), i ≤ s.1.length → s.1.length - i < N → -1 ≤ best → best < s.1.length → qdz (m.getD q zz3) s.1 (s.1.drop i) i best = (j : Int) →
    lp (k + 6) impl_State_remap [(.ptr true [(.int .i64 (a0)), (.arr true (a1z) (.r3 (a1))), (.arr true (a2z) (.ints .i64 (a2))), (.arr true (a3z) (.ints .i64 (a3))), (.arr true (a4z) (.ints .i64 (a4)))])] fu 7 (N) (qls (q : Int) best (s.1.length : Int) (i : Int) false s.1 false s.2.1 false s.2.2 false b r z m r') = some [.ptr true [.int .i64 (r), .arr true (false) (.r3 (t.1)), .arr true (false) (.ints .i64 (t.2.1)), .arr true (false) (.ints .i64 (t.2.2)), .arr true (false) (.ints .i64 (b))]]
  | 0, i, best, hi, hN, h0, h1, hd => by omega
  | N + 1, i, best, hi, hN, h0, h1, hd => by
    rw [qhl]
    by_cases g : i < s.1.length
    · rw [qd3 g zz3, qdz] at hd
      cases hc : cov (m.getD q zz3) (s.1.getD i zz3)
      · rw [hc, Bool.false_and, if_neg (by decide)] at hd
        have IH := qix k hk fu a0 a1z a1 a2z a2 a3z a3 a4z a4 r r' s b z m q hq hl j t eC hm N (i + 1) best (by omega) (by omega) h0 h1 hd
        simp (disch := omega) only [qaf, nth0, nth1, nth2, nth3, bit, qcw, qcx, qc8, qdd, qde, qdf, qdg, qdh, qdi, qdj, qcy, qcz, qc0, qc1, qc2, qc3, qc4, qc5, qc6, qc7, qc9, qda, qdb, qdc, qni, qnh, qnj, qkc, qky, qkz, qg6, qag, qm5, nI, qds, qdq, Bool.not_true, Bool.not_false, Bool.and_true, Bool.true_and, Bool.and_false, Bool.false_and, Bool.or_true, Bool.true_or, Bool.or_false, Bool.false_or, beq_self_eq_true, dTT, dFF, dT, dF, bigI, big0, qkb, qn6, qn7, List.length_set, List.length_replicate, Int.toNat_natCast, qcu, qcv, imax, imin, qaj, hc, IH]
      · rw [hc, Bool.true_and] at hd
        by_cases h2 : best < 0
        · rw [dT h2, Bool.true_or, if_pos rfl] at hd
          have IH := qix k hk fu a0 a1z a1 a2z a2 a3z a3 a4z a4 r r' s b z m q hq hl j t eC hm N (i + 1) (i : Int) (by omega) (by omega) (by omega) (by omega) hd
          simp (disch := omega) only [qaf, nth0, nth1, nth2, nth3, bit, qcw, qcx, qc8, qdd, qde, qdf, qdg, qdh, qdi, qdj, qcy, qcz, qc0, qc1, qc2, qc3, qc4, qc5, qc6, qc7, qc9, qda, qdb, qdc, qni, qnh, qnj, qkc, qky, qkz, qg6, qag, qm5, nI, qds, qdq, Bool.not_true, Bool.not_false, Bool.and_true, Bool.true_and, Bool.and_false, Bool.false_and, Bool.or_true, Bool.true_or, Bool.or_false, Bool.false_or, beq_self_eq_true, dTT, dFF, dT, dF, bigI, big0, qkb, qn6, qn7, List.length_set, List.length_replicate, Int.toNat_natCast, qcu, qcv, imax, imin, qaj, hc, IH]
        · obtain ⟨c, rfl⟩ : ∃ c : Nat, best = (c : Int) := ⟨best.toNat, by omega⟩
          rw [dF h2, Bool.false_or, Int.toNat_natCast] at hd
          by_cases h3 : qic s.1 c < (s.1.getD i zz3).2.1
          · rw [dT h3, if_pos rfl] at hd
            have IH := qix k hk fu a0 a1z a1 a2z a2 a3z a3 a4z a4 r r' s b z m q hq hl j t eC hm N (i + 1) (i : Int) (by omega) (by omega) (by omega) (by omega) hd
            simp (disch := omega) only [qaf, nth0, nth1, nth2, nth3, bit, qcw, qcx, qc8, qdd, qde, qdf, qdg, qdh, qdi, qdj, qcy, qcz, qc0, qc1, qc2, qc3, qc4, qc5, qc6, qc7, qc9, qda, qdb, qdc, qni, qnh, qnj, qkc, qky, qkz, qg6, qag, qm5, nI, qds, qdq, Bool.not_true, Bool.not_false, Bool.and_true, Bool.true_and, Bool.and_false, Bool.false_and, Bool.or_true, Bool.true_or, Bool.or_false, Bool.false_or, beq_self_eq_true, dTT, dFF, dT, dF, bigI, big0, qkb, qn6, qn7, List.length_set, List.length_replicate, Int.toNat_natCast, qcu, qcv, imax, imin, qaj, hc, IH]
          · rw [dF h3, if_neg (by decide)] at hd
            have IH := qix k hk fu a0 a1z a1 a2z a2 a3z a3 a4z a4 r r' s b z m q hq hl j t eC hm N (i + 1) (c : Int) (by omega) (by omega) (by omega) (by omega) hd
            simp (disch := omega) only [qaf, nth0, nth1, nth2, nth3, bit, qcw, qcx, qc8, qdd, qde, qdf, qdg, qdh, qdi, qdj, qcy, qcz, qc0, qc1, qc2, qc3, qc4, qc5, qc6, qc7, qc9, qda, qdb, qdc, qni, qnh, qnj, qkc, qky, qkz, qg6, qag, qm5, nI, qds, qdq, Bool.not_true, Bool.not_false, Bool.and_true, Bool.true_and, Bool.and_false, Bool.false_and, Bool.or_true, Bool.true_or, Bool.or_false, Bool.false_or, beq_self_eq_true, dTT, dFF, dT, dF, bigI, big0, qkb, qn6, qn7, List.length_set, List.length_replicate, Int.toNat_natCast, qcu, qcv, imax, imin, qaj, hc, IH]
    · rw [List.drop_of_length_le (by omega), qdz] at hd
      subst hd
      simp (disch := omega) only [qaf, nth0, nth1, nth2, nth3, bit, qcw, qcx, qc8, qdd, qde, qdf, qdg, qdh, qdi, qdj, qcy, qcz, qc0, qc1, qc2, qc3, qc4, qc5, qc6, qc7, qc9, qda, qdb, qdc, qni, qnh, qnj, qkc, qky, qkz, qg6, qag, qm5, nI, qds, qdq, Bool.not_true, Bool.not_false, Bool.and_true, Bool.true_and, Bool.and_false, Bool.false_and, Bool.or_true, Bool.true_or, Bool.or_false, Bool.false_or, beq_self_eq_true, dTT, dFF, dT, dF, bigI, big0, qkb, qn6, qn7, List.length_set, List.length_replicate, Int.toNat_natCast, qcu, qcv, imax, imin, eC, qnu, qnv, qnw, qnx, qny]
theorem qa8 (k : Nat) (hk : 2000000 ≤ k) (r : Int) (s : S3) (b : List Int) (U : StU r s b) (z : Bool) (r' : Int) (m : List Cell) (hm : qj1 r 0 m = true) (h : ¬ qm3 m s.1 < 0) :
    go (k + 7) impl_State_remap [.ptr true [.int .i64 (r), .arr true (false) (.r3 (s.1)), .arr true (false) (.ints .i64 (s.2.1)), .arr true (false) (.ints .i64 (s.2.2)), .arr true (false) (.ints .i64 (b))], .agg [.int .i64 r', .arr false z (.r3 m)], .int .i64 (qm3 m s.1)] = some [.ptr true [.int .i64 (r), .arr true (false) (.r3 ((rmS m s).1)), .arr true (false) (.ints .i64 ((rmS m s).2.1)), .arr true (false) (.ints .i64 ((rmS m s).2.2)), .arr true (false) (.ints .i64 (b))]] := by
  have L := qj6 hm
  have M := qj6 U.mesh
  obtain ⟨i, C, H⟩ := qli U hm h
  have e0 := qi9 k (by omega) [] z m (s.1.getD i zz3) (by omega) (k + 5) 0 (by omega) (by omega)
  rw [show ((0 : Nat) : Int) = 0 from rfl, List.drop_zero, show fstG (fun y => cov y (s.1.getD i zz3)) m 0 = qkr m (s.1.getD i zz3) from rfl] at e0
  have ci := C.hi
  rw [qep, C.e]
  rcases H with ⟨o, _, hl, e⟩ | ⟨q, j, o, hq, _, _, d, hj, sj, e⟩
  · have eR := qa7 (k + 3) (by omega) r s b U i ci hl
    rw [o] at e0
    rw [e]
    simp (disch := omega) only [qaf, nth0, nth1, nth2, nth3, bit, qcw, qcx, qc8, qdd, qde, qdf, qdg, qdh, qdi, qdj, qcy, qcz, qc0, qc1, qc2, qc3, qc4, qc5, qc6, qc7, qc9, qda, qdb, qdc, qni, qnh, qnj, qkc, qky, qkz, qg6, qag, qm5, nI, qds, qdq, Bool.not_true, Bool.not_false, Bool.and_true, Bool.true_and, Bool.and_false, Bool.false_and, Bool.or_true, Bool.true_or, Bool.or_false, Bool.false_or, beq_self_eq_true, dTT, dFF, dT, dF, bigI, big0, qkb, qn6, qn7, List.length_set, List.length_replicate, Int.toNat_natCast, qcu, qcv, imax, imin, qft, e0, eR, qnu, qnv, qnw, qnx, qny]
  · have hv : 1 ≤ qic s.1 j := qmu sj
    have eC := qaz k (by omega) r s b U j hj hv
    rw [o] at e0
    rw [e]
    have e7 := qix k hk [] r false s.1 false s.2.1 false s.2.2 false b r r' s b z m q hq M.2 j (cmS s j) eC L.2 (k + 6) 0 (-1) (by omega) (by omega) (by omega) (by omega) d
    rw [show ((0 : Nat) : Int) = 0 from rfl] at e7
    simp (disch := omega) only [qaf, nth0, nth1, nth2, nth3, bit, qcw, qcx, qc8, qdd, qde, qdf, qdg, qdh, qdi, qdj, qcy, qcz, qc0, qc1, qc2, qc3, qc4, qc5, qc6, qc7, qc9, qda, qdb, qdc, qni, qnh, qnj, qkc, qky, qkz, qg6, qag, qm5, nI, qds, qdq, Bool.not_true, Bool.not_false, Bool.and_true, Bool.true_and, Bool.and_false, Bool.false_and, Bool.or_true, Bool.true_or, Bool.or_false, Bool.false_or, beq_self_eq_true, dTT, dFF, dT, dF, bigI, big0, qkb, qn6, qn7, List.length_set, List.length_replicate, Int.toNat_natCast, qcu, qcv, imax, imin, qft, e0]
    exact e7
theorem qiw (k : Nat) (hk : 2000000 ≤ k) (fu : List (Nat × Nat)) (r : Int) (b : List Int) (M S : Int) (m : List Cell) (hm : qj1 r 0 m = true) (z : Bool) (r' : Int) (z3 : Bool) (l4 : List Cell) (z5 : Bool) (l6 : List Int) (z7 : Bool) (l8 : List Int) (z9 : Bool) (l10 : List Int) (x11 : Int) : ∀ (N n : Nat) (s : S3), StV r s b M S → mu r s.1 m < n → n < N →
    lp (k + 8) impl_RemapState [] fu 4 (N) (qlq z m r' z3 l4 z5 l6 z7 l8 z9 l10 x11 false s.1 false s.2.1 false s.2.2 false b r) = some [.agg [.int .i64 (r), .arr true (false) (.r3 ((rmN m n s).1)), .arr true (false) (.ints .i64 ((rmN m n s).2.1)), .arr true (false) (.ints .i64 ((rmN m n s).2.2)), .arr true (false) (.ints .i64 (b))], .bool true]
  | 0, n, s, V, h, hN => by omega
  | N + 1, 0, s, V, h, hN => by have := qj9 r s.1 m; omega
  | N + 1, n + 1, s, V, h, hN => by
    rw [qhj]
    have L := qj6 hm
    have T := qj6 V.u.mesh
    have e0 := qir (k + 2) (by omega) [] false z s.1 m r' (by omega) (by omega) ((k + 2) + 5) 0 (by omega) (by omega)
    rw [show ((0 : Nat) : Int) = 0 from rfl, List.drop_zero, show fstG (fun x => decide (lof m x < 0)) s.1 0 = qm3 m s.1 from rfl] at e0
    unfold rmN
    by_cases g : qm3 m s.1 < 0
    · rw [if_pos g]
      simp (disch := omega) only [qaf, nth0, nth1, nth2, nth3, bit, qcw, qcx, qc8, qdd, qde, qdf, qdg, qdh, qdi, qdj, qcy, qcz, qc0, qc1, qc2, qc3, qc4, qc5, qc6, qc7, qc9, qda, qdb, qdc, qni, qnh, qnj, qkc, qky, qkz, qg6, qag, qm5, nI, qds, qdq, Bool.not_true, Bool.not_false, Bool.and_true, Bool.true_and, Bool.and_false, Bool.false_and, Bool.or_true, Bool.true_or, Bool.or_false, Bool.false_or, beq_self_eq_true, dTT, dFF, dT, dF, bigI, big0, qkb, qn6, qn7, List.length_set, List.length_replicate, Int.toNat_natCast, qcu, qcv, imax, imin, qfs, e0]
    · rw [if_neg g]
      have eR := qa8 (k + 1) (by omega) r s b V.u z r' m hm g
      have IH := qiw k hk fu r b M S m hm z r' z3 l4 z5 l6 z7 l8 z9 l10 x11 N n (rmS m s) (rm_V V hm g) (by have := qlj V.u hm g; omega) (by omega)
      simp (disch := omega) only [qaf, nth0, nth1, nth2, nth3, bit, qcw, qcx, qc8, qdd, qde, qdf, qdg, qdh, qdi, qdj, qcy, qcz, qc0, qc1, qc2, qc3, qc4, qc5, qc6, qc7, qc9, qda, qdb, qdc, qni, qnh, qnj, qkc, qky, qkz, qg6, qag, qm5, nI, qds, qdq, Bool.not_true, Bool.not_false, Bool.and_true, Bool.true_and, Bool.and_false, Bool.false_and, Bool.or_true, Bool.true_or, Bool.or_false, Bool.false_or, beq_self_eq_true, dTT, dFF, dT, dF, bigI, big0, qkb, qn6, qn7, List.length_set, List.length_replicate, Int.toNat_natCast, qcu, qcv, imax, imin, qfs, e0, eR, qnu, qnv, qnw, qnx, qny, IH]
def qnq (r : Int) (s : S3) (b : List Int) (L : Int) : Bool := stOk r s.1 s.2.1 s.2.2 b && inR L 0 4
abbrev unM (r L : Int) : List Cell := uni L (2 ^ L.toNat) r.toNat
theorem qno {r L : Int} (hr : 1 ≤ r ∧ r ≤ 8) (hL : 0 ≤ L ∧ L ≤ 4) : qj1 r 0 (unM r L) = true ∧ unb (unM r L) < 0 := by
  obtain ⟨R, rfl⟩ : ∃ R : Nat, r = (R : Int) := ⟨r.toNat, by omega⟩
  obtain ⟨K, rfl⟩ : ∃ K : Nat, L = (K : Int) := ⟨L.toNat, by omega⟩
  exact qnt (by omega) (by omega)
theorem qar (k : Nat) (hk : 2000000 ≤ k) (r : Int) (s : S3) (b : List Int) (F : StF r s.1 s.2.1 s.2.2 b) (z : Bool) (m : List Cell) (hm : qj1 r 0 m = true) (hu : unb m < 0) :
    go (k + 9) impl_RemapState [.agg [.int .i64 (r), .arr false (false) (.r3 (s.1)), .arr false (false) (.ints .i64 (s.2.1)), .arr false (false) (.ints .i64 (s.2.2)), .arr false (false) (.ints .i64 (b))], .agg [.int .i64 r, .arr false z (.r3 m)]] = some [.agg [.int .i64 (r), .arr true (false) (.r3 ((rmp m s).1)), .arr true (false) (.ints .i64 ((rmp m s).2.1)), .arr true (false) (.ints .i64 ((rmp m s).2.2)), .arr true (false) (.ints .i64 (b))], .bool true] := by
  have V : StV r s b (isum s.2.1) (isum s.2.2) := ⟨F.toU, rfl, rfl⟩
  have rr := F.rr; have fl := F.len; have ml := F.ml; have tl := F.tl; have bl := F.bl
  have mm := qj6 hm
  have := qj8 (qnl V.u hm) (by omega)
  have e := qiw k hk [] r b _ _ m hm z r true [] true [] true [] true [] 0 (k + 8) 513 s V (by omega) (by omega)
  have eS := qav k (by omega) r false s.1 false s.2.1 false s.2.2 false b (by omega) (by omega)
  rw [stF.2 F] at eS
  have eB := qal (k + 1) (by omega) r z m (by omega)
  rw [show qad r m = true by unfold qad; rw [hm, dT hu]; rfl] at eB
  rw [qef]
  simp (disch := omega) only [qaf, nth0, nth1, nth2, nth3, bit, qcw, qcx, qc8, qdd, qde, qdf, qdg, qdh, qdi, qdj, qcy, qcz, qc0, qc1, qc2, qc3, qc4, qc5, qc6, qc7, qc9, qda, qdb, qdc, qni, qnh, qnj, qkc, qky, qkz, qg6, qag, qm5, nI, qds, qdq, Bool.not_true, Bool.not_false, Bool.and_true, Bool.true_and, Bool.and_false, Bool.false_and, Bool.or_true, Bool.true_or, Bool.or_false, Bool.false_or, beq_self_eq_true, dTT, dFF, dT, dF, bigI, big0, qkb, qn6, qn7, List.length_set, List.length_replicate, Int.toNat_natCast, qcu, qcv, imax, imin, eS, eB, qa1]
  exact e
end Go.Proofs.YtfgccfajhedgdaaGreat
end
section
namespace Go.Proofs.YtfgccfajhedgdaaGreat
open Go.Ev
set_option maxRecDepth 20000
abbrev qgp : D := .agg [.int .i64 0, .arr true true (.r3 []), .arr true true (.ints .i64 []), .arr true true (.ints .i64 []), .arr true true (.ints .i64 [])]
theorem qaw (k : Nat) (hk : 2000000 ≤ k) (r : Int) (s : S3) (b : List Int) (L : Int) (h1 : (s.1.length : Int) ≤ 1048576) (h4 : (b.length : Int) ≤ 1048576) :
    go (k + 10) impl_UniformOf [.agg [.int .i64 (r), .arr false (false) (.r3 (s.1)), .arr false (false) (.ints .i64 (s.2.1)), .arr false (false) (.ints .i64 (s.2.2)), .arr false (false) (.ints .i64 (b))], .int .i64 L] = cond (qnq r s b L) (some [.agg [.int .i64 (r), .arr true (false) (.r3 ((rmp (unM r L) s).1)), .arr true (false) (.ints .i64 ((rmp (unM r L) s).2.1)), .arr true (false) (.ints .i64 ((rmp (unM r L) s).2.2)), .arr true (false) (.ints .i64 (b))], .bool true]) (some [qgp, .bool false]) := by
  rw [qer]
  have eM := qan (k + 6) (by omega) r L
  unfold qnq
  cases g : stOk r s.1 s.2.1 s.2.2 b
  · cases g1 : (inR r 1 8 && inR L 0 4)
    · rw [g1] at eM
      simp (disch := omega) only [qaf, nth0, nth1, nth2, nth3, bit, qcw, qcx, qc8, qdd, qde, qdf, qdg, qdh, qdi, qdj, qcy, qcz, qc0, qc1, qc2, qc3, qc4, qc5, qc6, qc7, qc9, qda, qdb, qdc, qni, qnh, qnj, qkc, qky, qkz, qg6, qag, qm5, nI, qds, qdq, Bool.not_true, Bool.not_false, Bool.and_true, Bool.true_and, Bool.and_false, Bool.false_and, Bool.or_true, Bool.true_or, Bool.or_false, Bool.false_or, beq_self_eq_true, dTT, dFF, dT, dF, bigI, big0, qkb, qn6, qn7, List.length_set, List.length_replicate, Int.toNat_natCast, qcu, qcv, imax, imin, eM]
    · rw [g1] at eM
      have eS := qav k (by omega) r false s.1 false s.2.1 false s.2.2 false b h1 h4
      rw [g] at eS
      simp (disch := omega) only [qaf, nth0, nth1, nth2, nth3, bit, qcw, qcx, qc8, qdd, qde, qdf, qdg, qdh, qdi, qdj, qcy, qcz, qc0, qc1, qc2, qc3, qc4, qc5, qc6, qc7, qc9, qda, qdb, qdc, qni, qnh, qnj, qkc, qky, qkz, qg6, qag, qm5, nI, qds, qdq, Bool.not_true, Bool.not_false, Bool.and_true, Bool.true_and, Bool.and_false, Bool.false_and, Bool.or_true, Bool.true_or, Bool.or_false, Bool.false_or, beq_self_eq_true, dTT, dFF, dT, dF, bigI, big0, qkb, qn6, qn7, List.length_set, List.length_replicate, Int.toNat_natCast, qcu, qcv, imax, imin, eM, qef, eS]
  · have F := stF.1 g
    have rr := F.rr
    rw [qg5.2 rr, Bool.true_and] at eM
    cases g2 : inR L 0 4
    · rw [g2] at eM
      simp (disch := omega) only [qaf, nth0, nth1, nth2, nth3, bit, qcw, qcx, qc8, qdd, qde, qdf, qdg, qdh, qdi, qdj, qcy, qcz, qc0, qc1, qc2, qc3, qc4, qc5, qc6, qc7, qc9, qda, qdb, qdc, qni, qnh, qnj, qkc, qky, qkz, qg6, qag, qm5, nI, qds, qdq, Bool.not_true, Bool.not_false, Bool.and_true, Bool.true_and, Bool.and_false, Bool.false_and, Bool.or_true, Bool.true_or, Bool.or_false, Bool.false_or, beq_self_eq_true, dTT, dFF, dT, dF, bigI, big0, qkb, qn6, qn7, List.length_set, List.length_replicate, Int.toNat_natCast, qcu, qcv, imax, imin, eM]
    · rw [g2] at eM
      have U := qno rr (qg5.1 g2)
      have eR := qar k (by omega) r s b F false (unM r L) U.1 U.2
      simp (disch := omega) only [qaf, nth0, nth1, nth2, nth3, bit, qcw, qcx, qc8, qdd, qde, qdf, qdg, qdh, qdi, qdj, qcy, qcz, qc0, qc1, qc2, qc3, qc4, qc5, qc6, qc7, qc9, qda, qdb, qdc, qni, qnh, qnj, qkc, qky, qkz, qg6, qag, qm5, nI, qds, qdq, Bool.not_true, Bool.not_false, Bool.and_true, Bool.true_and, Bool.and_false, Bool.false_and, Bool.or_true, Bool.true_or, Bool.or_false, Bool.false_or, beq_self_eq_true, dTT, dFF, dT, dF, bigI, big0, qkb, qn6, qn7, List.length_set, List.length_replicate, Int.toNat_natCast, qcu, qcv, imax, imin, eM, eR]
end Go.Proofs.YtfgccfajhedgdaaGreat
end
