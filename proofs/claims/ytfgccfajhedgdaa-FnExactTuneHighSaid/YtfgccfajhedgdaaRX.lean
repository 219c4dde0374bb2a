/- slices.Replace: its contract. Made by rw.py. -/
import Derived.Test.YtfgccfajhedgdaaRW
import Derived.Test.YtfgccfajhedgdaaXA
set_option linter.unusedVariables false
set_option linter.unusedSimpArgs false
namespace Go.Proofs.Ytfgccfajhedgdaa
open Go.RowKit Go.Lib Go.Ev Go.Shelf
theorem fr_drewN (w : World) (q : Nat) : Fr (fun _ _ => False) w (w.drewN q) := ⟨rfl, rfl, rfl, Nat.le_refl _, fun _ _ => .inr (.inl rfl)⟩

theorem zv_int : ∀ w, (zeroValue 3).run Try.prog w = .ok (.int .i64 0) w := fun w => by
  obtain ⟨i0, hi, h0, h1, h2⟩ := info_parts iE_int
  simp [zeroValue, typeInfo, hi, h0]
set_option maxHeartbeats 1000000 in
set_option maxRecDepth 100000 in
theorem rep_int (w : World) (g n c i j m vc : Nat) (a : Addr) (xs vs : List Value) (e' : TypeId) (hij : i < j) (hj : j ≤ n) (hm : 1 ≤ m) (hne : i + m ≠ j) (hn : n ≤ 549755813888) (hmb : m ≤ 549755813888)
    (own : w.ownsRow 0 e' 1 (.slice (some ⟨g, 0, none⟩) n c) n xs) (hva : a.block ≠ g) (hvl : vs.length = m * 1) (hv : ∀ q v, vs[q]? = some v → w.cell? (a.add q) = some v)
    (h1c : ∀ v ∈ xs, v.oneCell' = true) (h1v : ∀ v ∈ vs, v.oneCell' = true) :
    Calls Try.prog 207 #[.slice (some ⟨g, 0, none⟩) n c, .int .i64 i, .int .i64 j, .slice (some a) m vc] w (RepPost 1 w g (i + m + (n - j)) (xs.take (i * 1) ++ vs ++ xs.drop (j * 1))) := by
  have own0 := own
  obtain ⟨hxl, hx | ⟨g', cap, cur, e1, _, hg, hnc, hcm, hcs, htk⟩⟩ := own
  · simp at hx
  simp only [Value.slice.injEq, Option.some.injEq, Addr.mk.injEq, and_true, true_and] at e1
  obtain ⟨rfl, rfl⟩ := e1
  have hcm' := hcm
  unfold maxLen at hcm'
  obtain ⟨i0, hi, hz0, hzs, hzb⟩ := info_parts iE_int
  have hlt : g < w.heap.size := (Array.getElem?_eq_some_iff.1 hg).1
  have hcur : cur.toList.length = c * 1 := by rw [Array.length_toList]; exact hcs
  have htA : xs.take (i * 1) = cur.toList.take (i * 1) := by rw [← htk, take_take_le _ (by omega)]
  have h1z : ∀ n, ∀ v ∈ (Builtin.zeroCells ((.int .i64 0) : Value).cells n).toList, v.oneCell' = true := fun n => zeroCells_oneCell (by intro v hv; simp [Value.cells] at hv; rcases hv with rfl | rfl | rfl <;> rfl) n
  have lz : ∀ n, (Builtin.zeroCells ((.int .i64 0) : Value).cells n).toList.length = n * 1 := fun n => by simp [Builtin.zeroCells, Value.cells]
  by_cases hjn : j = n
  · have hys : xs.take (i * 1) ++ vs ++ xs.drop (j * 1) = xs.take (i * 1) ++ vs := by rw [List.drop_of_length_le (by omega), List.append_nil]
    have owni : w.ownsRow 0 e' i0.size (.slice (some ⟨g, 0, none⟩) i c) i (xs.take (i * 1)) := by
      rw [hzs]; exact own_make hg (by rw [List.length_take]; omega) (by omega) hcm hcs (by rw [htA])
    obtain ⟨u', w1, e2, hr, hown, hfr, _, hblk⟩ := append_any (P := Try.prog) (w := w) (t := 25) (t2 := 25) (ty := 25) (e := 3) (e' := e') (d2 := .slice 3) (i := i0) (z := (.int .i64 0)) uS_int uS_int (fun k h => by cases h) hi hz0 (by rw [hzs]; rfl) (by omega) (by omega)
      (u := .slice (some ⟨g, 0, none⟩) i c) (x := .slice (some a) m vc) (n := i) (m := m) (xs := xs.take (i * 1)) (news := vs) rfl
      (fun w1 h => by
        rw [hzs]
        rcases h with rfl | rfl
        · exact run_firstCells_some w1 1 m a m vc vs hvl hv
        · exact run_firstCells_some w.drew 1 m a m vc vs hvl hv) (by rw [hvl, hzs]) h1v owni (by unfold bigLen; omega)
    have hfr' : Fr (fun b _ => b = g) w w1 := hfr.mono fun x y _ h => by simp [Value.ownBlock] at h; exact h.symm
    rw [hzs] at hown
    have hown0 := hown
    obtain ⟨_, ⟨_, h0⟩ | ⟨g1, cap1, cur1, rfl, _⟩⟩ := hown
    · omega
    have hblk' : ∀ b, (Value.slice (some ⟨g1, 0, none⟩) (i + m) cap1).ownBlock = some b → b = g ∨ w.heap.size ≤ b := fun b hb => (hblk b hb).imp (fun h => by simp [Value.ownBlock] at h; exact h.symm) id
    by_cases hcut : i + m < n
    · obtain ⟨cu, hcu, hcz⟩ := fr_at hfr' hg
      have hfit : (i + m) * 1 + (Builtin.zeroCells ((.int .i64 0) : Value).cells (n - (i + m))).toList.length ≤ cu.size := by rw [lz]; omega
      refine (rep_cut_int g n c i j m vc cap1 a ⟨g1, 0, none⟩ w w1 _ hij hjn hnc (by omega) hcm' hcut (by omega) hr (fun ty kc => run_clear_rows w1 25 3 ty (.int .i64 0) uS_int zv_int h1z g (i + m) (n - (i + m)) kc (by omega) cu e' hcu (by omega))).mono ?_
      rintro en w' ⟨rfl, rfl⟩
      refine ⟨_, rfl, ⟨e2, ?_⟩, hfr'.trans (fr_row hcu (spl_size (by omega))), hblk'⟩
      rw [hys, show i + m + (n - j) = i + m by omega]
      exact own_clear hown0 hcu (by omega) (by omega)
    · refine (rep_end_int g n c i j m vc cap1 a ⟨g1, 0, none⟩ w w1 hij hjn hnc (by omega) hcm' (by omega) (by omega) hr).mono ?_
      rintro en w' ⟨rfl, rfl⟩
      refine ⟨_, rfl, ⟨e2, ?_⟩, hfr', hblk'⟩
      rw [hys, show i + m + (n - j) = i + m by omega]
      exact hown0
  · have hj' : j < n := by omega
    obtain ⟨cs, hcsd⟩ : ∃ cs, cs = xs.drop (j * 1) := ⟨_, rfl⟩
    have hcl : cs.length = (n - j) * 1 := by rw [hcsd, List.length_drop]; omega
    have h1s : ∀ v ∈ cs, v.oneCell' = true := fun v hv => h1c v (by rw [hcsd] at hv; exact List.mem_of_mem_drop hv)
    have htd : (cur.toList.drop (j * 1)).take ((n - j) * 1) = cs := by rw [hcsd, ← htk, List.drop_take]; congr 1; omega
    have hys : (xs.take (i * 1) ++ vs ++ cs).length = (i + m + (n - j)) * 1 := by
      rw [List.length_append, List.length_append, List.length_take]; omega
    rw [← hcsd]
    have hmin : Nat.min m (i + m + (n - j) - i) = m := by simp only [Nat.min_def]; split <;> omega
    have hmin2 : Nat.min (n - j) (n - j) = n - j := Nat.min_self _
    by_cases hroom : i + m + (n - j) ≤ c
    · by_cases hgr : j < i + m
      · have hfa : (i + m) * 1 + cs.length ≤ cur.size := by omega
        have hfb : i * 1 + vs.length ≤ (spl cur ((i + m) * 1) cs).size := by rw [spl_size hfa]; omega
        obtain ⟨tB, kB, hsb, hkB⟩ := shape_of (by omega) hv
        refine (rep_room_int g n c i j m vc a w (fun q => (w.drewN q).setRow g (spl cur ((i + m) * 1) cs)) (fun q => ((w.drewN q).setRow g (spl cur ((i + m) * 1) cs)).setRow g (spl (spl cur ((i + m) * 1) cs) (i * 1) vs)) hij hj' hnc (by omega) hcm' hgr (by omega) hroom ?_ ?_ ?_).mono ?_
        · intro q lb cb
          rw [run_callFunc_extern Try.func221 (by kernel_rfl) (by kernel_rfl) (by kernel_rfl) (e := Extern.SlicesOverlaps.overlaps #[25, 25] #[4]) (by kernel_rfl),
            Lib.run_overlaps_apart (w.drewN q) 25 4 3 uS_int 1 su_int ⟨g, (i + m), none⟩ a lb cb m vc (fun h => hva h.symm) e' tB cur.size kB (by simp [World.shape?, hg]) (by simpa [World.shape?] using hsb) hkB (by simp [World.frozen?, hg]) (by simp [World.frozen?, hg])]
          rfl
        · intro q ty dc sc
          have := run_copy_rows (P := Try.prog) (w.drewN q) 25 25 ty 3 1 g ((i + m) * 1) (n - j) dc ⟨g, j * 1, none⟩ (n - j) sc cur e' cs uS_int sz_int hg (by rw [hcl, hmin2]) (fun q' v hq => by rw [Addr.add_lit]; simpa [World.cell?, hg] using get_drop htd q' v hq) hfa h1s
          rw [hmin2] at this
          simpa using this
        · intro q ty dc
          have := run_copy_rows (P := Try.prog) ((w.drewN q).setRow g (spl cur ((i + m) * 1) cs)) 25 25 ty 3 1 g (i * 1) (i + m + (n - j) - i) dc a m vc (spl cur ((i + m) * 1) cs) e' vs uS_int sz_int (setRow_heap _ g cur _ e' _ hg) (by rw [hvl, hmin]) (fun q' v hq => by rw [cell_setRow hva]; exact hv q' v hq) hfb h1v
          rw [hmin] at this
          simpa using this
        · rintro en w' ⟨q, rfl, rfl⟩
          refine ⟨_, rfl, ⟨e', ?_⟩, ?_, fun b hb => .inl (by simp [Value.ownBlock] at hb; exact hb.symm)⟩
          · refine own_make (setRow_heap _ g _ _ e' _ (setRow_heap _ g cur _ e' _ hg)) hys hroom hcm (by rw [spl_size hfb, spl_size hfa]; exact hcs) ?_
            have d1 : (spl cur ((i + m) * 1) cs).toList.drop ((i + m) * 1) = cs ++ cur.toList.drop ((i + m) * 1 + cs.length) := by
              show List.drop _ (cur.toList.take ((i + m) * 1) ++ cs ++ cur.toList.drop ((i + m) * 1 + cs.length)) = _
              rw [List.append_assoc, List.drop_left' (by rw [List.length_take]; omega)]
            show List.take _ ((spl cur ((i + m) * 1) cs).toList.take (i * 1) ++ vs ++ (spl cur ((i + m) * 1) cs).toList.drop (i * 1 + vs.length)) = _
            rw [show i * 1 + vs.length = (i + m) * 1 by omega, d1, spl_take_lo (by omega) (by omega), htA, ← List.append_assoc]
            exact List.take_left' (by rw [← htA]; exact hys)
          · rw [setRow_setRow]
            exact (((fr_drewN w q).mono fun _ _ _ h => h.elim).trans (fr_row (w := w.drewN q) hg (by rw [spl_size hfb, spl_size hfa])))
      · have hfa : i * 1 + vs.length ≤ cur.size := by omega
        have hfb : (i + m) * 1 + cs.length ≤ (spl cur (i * 1) vs).size := by rw [spl_size hfa]; omega
        have hfc : (i + m + (n - j)) * 1 + (Builtin.zeroCells ((.int .i64 0) : Value).cells (n - (i + m + (n - j)))).toList.length ≤ (spl (spl cur (i * 1) vs) ((i + m) * 1) cs).size := by rw [spl_size hfb, spl_size hfa, lz]; omega
        have htd1 : ((spl cur (i * 1) vs).toList.drop (j * 1)).take ((n - j) * 1) = cs := by rw [spl_drop_hi (by omega) hfa]; exact htd
        refine (rep_less_int g n c i j m vc a w (fun q => (w.drewN q).setRow g (spl cur (i * 1) vs)) (fun q => ((w.drewN q).setRow g (spl cur (i * 1) vs)).drew.setRow g (spl (spl cur (i * 1) vs) ((i + m) * 1) cs)) (fun q => (((w.drewN q).setRow g (spl cur (i * 1) vs)).drew.setRow g (spl (spl cur (i * 1) vs) ((i + m) * 1) cs)).setRow g (spl (spl (spl cur (i * 1) vs) ((i + m) * 1) cs) ((i + m + (n - j)) * 1) (Builtin.zeroCells ((.int .i64 0) : Value).cells (n - (i + m + (n - j)))).toList)) hij hj' hnc (by omega) hcm' (by omega) (by omega) ?_ ?_ ?_).mono ?_
        · intro q ty dc
          have := run_copy_rows (P := Try.prog) (w.drewN q) 25 25 ty 3 1 g (i * 1) (i + m + (n - j) - i) dc a m vc cur e' vs uS_int sz_int hg (by rw [hvl, hmin]) hv hfa h1v
          rw [hmin] at this
          simpa using this
        · intro q ty dc sc
          have hh : ((w.drewN q).setRow g (spl cur (i * 1) vs)).drew.heap[g]? = some (.cells (spl cur (i * 1) vs) e' (0, 0)) := setRow_heap _ g cur _ e' _ hg
          have := run_copy_rows (P := Try.prog) ((w.drewN q).setRow g (spl cur (i * 1) vs)).drew 25 25 ty 3 1 g ((i + m) * 1) (n - j) dc ⟨g, j * 1, none⟩ (n - j) sc _ e' cs uS_int sz_int hh (by rw [hcl, hmin2]) (fun q' v hq => cell_at hh (get_drop htd1 q' v hq)) hfb h1s
          rw [hmin2] at this
          simpa using this
        · intro q ty kc
          have := run_clear_rows (P := Try.prog) _ 25 3 ty (.int .i64 0) uS_int zv_int h1z g ((i + m + (n - j)) * 1) (n - (i + m + (n - j))) kc (by omega) _ e' (setRow_heap ((w.drewN q).setRow g (spl cur (i * 1) vs)).drew g _ (spl (spl cur (i * 1) vs) ((i + m) * 1) cs) e' _ (setRow_heap (w.drewN q) g cur _ e' _ hg)) hfc
          simpa using this
        · rintro en w' ⟨q, rfl, rfl⟩
          refine ⟨_, rfl, ⟨e', ?_⟩, ?_, fun b hb => .inl (by simp [Value.ownBlock] at hb; exact hb.symm)⟩
          · refine own_make (setRow_heap _ g _ _ e' _ (setRow_heap _ g _ _ e' _ (setRow_heap (w.drewN q) g cur _ e' _ hg))) hys hroom hcm (by rw [spl_size hfc, spl_size hfb, spl_size hfa]; exact hcs) ?_
            rw [spl_take_lo (by omega) (by rw [spl_size hfb, spl_size hfa]; omega)]
            have e1 := spl_take hfb
            rw [show (i + m) * 1 + cs.length = (i + m + (n - j)) * 1 by omega] at e1
            rw [e1]
            have e2 := spl_take hfa
            rw [show i * 1 + vs.length = (i + m) * 1 by omega] at e2
            rw [e2, htA]
          · have f1 := fr_row (w := w.drewN q) hg (spl_size hfa)
            have g1 := setRow_heap (w.drewN q) g cur (spl cur (i * 1) vs) e' _ hg
            have f2 := fr_row (w := ((w.drewN q).setRow g (spl cur (i * 1) vs)).drew) g1 (spl_size hfb)
            have g2 := setRow_heap ((w.drewN q).setRow g (spl cur (i * 1) vs)).drew g _ (spl (spl cur (i * 1) vs) ((i + m) * 1) cs) e' _ g1
            have f3 := fr_row g2 (spl_size hfc)
            exact ((fr_drewN w q).mono fun _ _ _ h => h.elim).trans (f1.trans (((fr_drew _).mono fun _ _ _ h => h.elim).trans (f2.trans f3)))
    · obtain ⟨ROW, hROW⟩ : ∃ ROW : Nat → Array Value, ROW = fun q => (xs.take (i * 1)).toArray ++ Builtin.zeroCells ((.int .i64 0) : Value).cells (m + (n - j)) ++ Builtin.zeroCells ((.int .i64 0) : Value).cells (grownCap (w.drewN q) (i + (m + (n - j))) c 3 - (i + (m + (n - j)))) := ⟨_, rfl⟩
      obtain ⟨G, hGd⟩ : ∃ G : Nat → Nat, G = fun q => grownCap (w.drewN q) (i + (m + (n - j))) c 3 := ⟨_, rfl⟩
      have hG : ∀ q, i + m + (n - j) ≤ G q := fun q => by have := grownCap_ge (w.drewN q) (i + (m + (n - j))) c 3; rw [hGd]; show i + m + (n - j) ≤ grownCap (w.drewN q) (i + (m + (n - j))) c 3; omega
      have hGm : ∀ q, G q ≤ maxLen := fun q => by rw [hGd]; exact grownCap_le_maxLen _ _ _ _ (by unfold maxLen; omega)
      have hrs : ∀ q, (ROW q).size = G q * 1 := fun q => by
        have := hG q
        rw [hGd] at this ⊢
        rw [hROW]
        simp only [Array.size_append, List.size_toArray, List.length_take]
        rw [← Array.length_toList (xs := Builtin.zeroCells _ _), lz, ← Array.length_toList (xs := Builtin.zeroCells _ _), lz]
        simp only at this
        omega
      have hrt : ∀ q, (ROW q).toList.take (i * 1) = xs.take (i * 1) := fun q => by
        rw [hROW]
        simp only [Array.toList_append, List.append_assoc]
        exact List.take_left' (by rw [List.length_take]; omega)
      have hap : ∀ q, (Builtin.append_ #[25, 3] 25 #[.slice (some ⟨g, 0, none⟩) i c, .int .i64 ((i : Int) + (m : Int) + ((n - j : Nat) : Int) - (i : Int))]).run Try.prog (w.drewN q) = .ok (.slice (some ⟨w.heap.size, 0, none⟩) (i + m + (n - j)) (G q)) ((w.drewN q).drew.alloc (.cells (ROW q) 3)) := fun q => by
        have hold : (Builtin.firstCells i0.size i (.slice (some ⟨g, 0, none⟩) i c)).run Try.prog (w.drewN q).drew = .ok (xs.take (i * 1)).toArray (w.drewN q).drew := by
          rw [hzs]
          exact run_firstCells_some _ 1 i ⟨g, 0, none⟩ i c _ (by rw [List.length_take]; omega) (fun q' v hq => by
            rw [Addr.add_lit]
            have := get_drop (cur := cur) (o := 0) (L := i * 1) (cs := xs.take (i * 1)) (by rw [List.drop_zero, htA]) q' v hq
            simpa [World.cell?, hg] using this)
        have h := Lib.run_append_grow_zeros (P := Try.prog) (w.drewN q) 25 3 25 3 i0 (.int .i64 0) .i64 .i64 uS_int (by kernel_rfl) hi hz0 (some ⟨g, 0, none⟩) i c (xs.take (i * 1)) hold (m + (n - j)) (by omega) (by omega) (by omega) (by omega) (by rw [hzb]; omega) (by rw [hzb]; exact growslice_fits (by omega) (by omega))
        rw [show (i : Int) + (m : Int) + ((n - j : Nat) : Int) - (i : Int) = ((m + (n - j) : Nat) : Int) by omega, show i + m + (n - j) = i + (m + (n - j)) by omega, hGd, hROW]
        exact h
      have hfa : ∀ q, i * 1 + vs.length ≤ (ROW q).size := fun q => by rw [hrs q]; have := hG q; omega
      have hfb : ∀ q, (i + m) * 1 + cs.length ≤ (spl (ROW q) (i * 1) vs).size := fun q => by rw [spl_size (hfa q), hrs q]; have := hG q; omega
      have hnew : ∀ q, ((w.drewN q).drew.alloc (.cells (ROW q) 3)).heap[w.heap.size]? = some (.cells (ROW q) 3 (0, 0)) := fun q => heap_alloc_new (w.drewN q).drew _
      have hold : ∀ q b, b < w.heap.size → ((w.drewN q).drew.alloc (.cells (ROW q) 3)).heap[b]? = w.heap[b]? := fun q b hb => by
        show (w.heap.push _)[b]? = _
        rw [Array.getElem?_push, if_neg (by omega)]
      have hab : a.block < w.heap.size := block_lt_of_cell (hv 0 _ (List.getElem?_eq_getElem (show 0 < vs.length by omega)))
      refine (rep_new_int g n c i j m vc w.heap.size a w G (fun q => (w.drewN q).drew.alloc (.cells (ROW q) 3)) (fun q => ((w.drewN q).drew.alloc (.cells (ROW q) 3)).setRow w.heap.size (spl (ROW q) (i * 1) vs)) (fun q => (((w.drewN q).drew.alloc (.cells (ROW q) 3)).setRow w.heap.size (spl (ROW q) (i * 1) vs)).drew.setRow w.heap.size (spl (spl (ROW q) (i * 1) vs) ((i + m) * 1) cs)) hij hj' hnc (by omega) hcm' (by omega) (by omega) hG hap ?_ ?_).mono ?_
      · intro q ty dc
        have := run_copy_rows (P := Try.prog) ((w.drewN q).drew.alloc (.cells (ROW q) 3)) 25 25 ty 3 1 w.heap.size (i * 1) (i + m + (n - j) - i) dc a m vc (ROW q) 3 vs uS_int sz_int (hnew q) (by rw [hvl, hmin]) (fun q' v hq => by
          rw [← hv q' v hq]; simp only [World.cell?, addr_block]; rw [hold q a.block hab]) (hfa q) h1v
        rw [hmin] at this
        simpa using this
      · intro q ty dc sc
        have hh : (((w.drewN q).drew.alloc (.cells (ROW q) 3)).setRow w.heap.size (spl (ROW q) (i * 1) vs)).drew.heap[w.heap.size]? = some (.cells (spl (ROW q) (i * 1) vs) 3 (0, 0)) := setRow_heap _ _ _ _ 3 _ (hnew q)
        have hh2 : (((w.drewN q).drew.alloc (.cells (ROW q) 3)).setRow w.heap.size (spl (ROW q) (i * 1) vs)).drew.heap[g]? = some (.cells cur e' (0, 0)) := by
          show (((w.drewN q).drew.alloc (.cells (ROW q) 3)).setRow w.heap.size (spl (ROW q) (i * 1) vs)).heap[g]? = _
          rw [setRow_other _ w.heap.size g _ (by omega), hold q g hlt]; exact hg
        have := run_copy_rows (P := Try.prog) (((w.drewN q).drew.alloc (.cells (ROW q) 3)).setRow w.heap.size (spl (ROW q) (i * 1) vs)).drew 25 25 ty 3 1 w.heap.size ((i + m) * 1) (n - j) dc ⟨g, j * 1, none⟩ (n - j) sc _ 3 cs uS_int sz_int hh (by rw [hcl, hmin2]) (fun q' v hq => cell_at hh2 (get_drop htd q' v hq)) (hfb q) h1s
        rw [hmin2] at this
        simpa using this
      · rintro en w' ⟨q, rfl, rfl⟩
        refine ⟨_, rfl, ⟨3, ?_⟩, ?_, fun b hb => .inr (by simp [Value.ownBlock] at hb; omega)⟩
        · refine own_make (setRow_heap _ _ _ _ 3 _ (setRow_heap _ _ _ _ 3 _ (hnew q))) hys (hG q) (hGm q) (by rw [spl_size (hfb q), spl_size (hfa q)]; exact hrs q) ?_
          have e1 := spl_take (hfb q)
          rw [show (i + m) * 1 + cs.length = (i + m + (n - j)) * 1 by omega] at e1
          rw [e1]
          have e2 := spl_take (hfa q)
          rw [show i * 1 + vs.length = (i + m) * 1 by omega] at e2
          rw [e2, hrt q]
        · have f0 : Fr (fun b _ => b = g ∨ w.heap.size ≤ b) w ((w.drewN q).drew.alloc (.cells (ROW q) 3)) := ((fr_drewN w q).mono fun _ _ _ h => h.elim).trans (((fr_drew _).mono fun _ _ _ h => h.elim).trans ((fr_alloc _ _).mono fun _ _ _ h => h.elim))
          have f1 := fr_new f0 (Nat.le_refl _) (hnew q) (spl_size (hfa q))
          have f2 := fr_new (f1.trans ((fr_drew _).mono fun _ _ _ h => h.elim)) (Nat.le_refl _) (setRow_heap _ _ _ _ 3 _ (hnew q)) (spl_size (hfb q))
          exact f2.mono fun x y hx h => h.elim id fun h => by omega

theorem zv_id : ∀ w, (zeroValue 122).run Try.prog w = .ok (.agg #[.int .i64 0, .int .i64 0, .int .i64 0]) w := fun w => by
  obtain ⟨i0, hi, h0, h1, h2⟩ := info_parts iE_id
  simp [zeroValue, typeInfo, hi, h0]
set_option maxHeartbeats 1000000 in
set_option maxRecDepth 100000 in
theorem rep_id (w : World) (g n c i j m vc : Nat) (a : Addr) (xs vs : List Value) (e' : TypeId) (hij : i < j) (hj : j ≤ n) (hm : 1 ≤ m) (hne : i + m ≠ j) (hn : n ≤ 549755813888) (hmb : m ≤ 549755813888)
    (own : w.ownsRow 0 e' 3 (.slice (some ⟨g, 0, none⟩) n c) n xs) (hva : a.block ≠ g) (hvl : vs.length = m * 3) (hv : ∀ q v, vs[q]? = some v → w.cell? (a.add q) = some v)
    (h1c : ∀ v ∈ xs, v.oneCell' = true) (h1v : ∀ v ∈ vs, v.oneCell' = true) :
    Calls Try.prog 218 #[.slice (some ⟨g, 0, none⟩) n c, .int .i64 i, .int .i64 j, .slice (some a) m vc] w (RepPost 3 w g (i + m + (n - j)) (xs.take (i * 3) ++ vs ++ xs.drop (j * 3))) := by
  have own0 := own
  obtain ⟨hxl, hx | ⟨g', cap, cur, e1, _, hg, hnc, hcm, hcs, htk⟩⟩ := own
  · simp at hx
  simp only [Value.slice.injEq, Option.some.injEq, Addr.mk.injEq, and_true, true_and] at e1
  obtain ⟨rfl, rfl⟩ := e1
  have hcm' := hcm
  unfold maxLen at hcm'
  obtain ⟨i0, hi, hz0, hzs, hzb⟩ := info_parts iE_id
  have hlt : g < w.heap.size := (Array.getElem?_eq_some_iff.1 hg).1
  have hcur : cur.toList.length = c * 3 := by rw [Array.length_toList]; exact hcs
  have htA : xs.take (i * 3) = cur.toList.take (i * 3) := by rw [← htk, take_take_le _ (by omega)]
  have h1z : ∀ n, ∀ v ∈ (Builtin.zeroCells ((.agg #[.int .i64 0, .int .i64 0, .int .i64 0]) : Value).cells n).toList, v.oneCell' = true := fun n => zeroCells_oneCell (by intro v hv; simp [Value.cells] at hv; rcases hv with rfl | rfl | rfl <;> rfl) n
  have lz : ∀ n, (Builtin.zeroCells ((.agg #[.int .i64 0, .int .i64 0, .int .i64 0]) : Value).cells n).toList.length = n * 3 := fun n => by simp [Builtin.zeroCells, Value.cells]
  by_cases hjn : j = n
  · have hys : xs.take (i * 3) ++ vs ++ xs.drop (j * 3) = xs.take (i * 3) ++ vs := by rw [List.drop_of_length_le (by omega), List.append_nil]
    have owni : w.ownsRow 0 e' i0.size (.slice (some ⟨g, 0, none⟩) i c) i (xs.take (i * 3)) := by
      rw [hzs]; exact own_make hg (by rw [List.length_take]; omega) (by omega) hcm hcs (by rw [htA])
    obtain ⟨u', w1, e2, hr, hown, hfr, _, hblk⟩ := append_any (P := Try.prog) (w := w) (t := 29) (t2 := 29) (ty := 29) (e := 122) (e' := e') (d2 := .slice 122) (i := i0) (z := (.agg #[.int .i64 0, .int .i64 0, .int .i64 0])) uS_id uS_id (fun k h => by cases h) hi hz0 (by rw [hzs]; rfl) (by omega) (by omega)
      (u := .slice (some ⟨g, 0, none⟩) i c) (x := .slice (some a) m vc) (n := i) (m := m) (xs := xs.take (i * 3)) (news := vs) rfl
      (fun w1 h => by
        rw [hzs]
        rcases h with rfl | rfl
        · exact run_firstCells_some w1 3 m a m vc vs hvl hv
        · exact run_firstCells_some w.drew 3 m a m vc vs hvl hv) (by rw [hvl, hzs]) h1v owni (by unfold bigLen; omega)
    have hfr' : Fr (fun b _ => b = g) w w1 := hfr.mono fun x y _ h => by simp [Value.ownBlock] at h; exact h.symm
    rw [hzs] at hown
    have hown0 := hown
    obtain ⟨_, ⟨_, h0⟩ | ⟨g1, cap1, cur1, rfl, _⟩⟩ := hown
    · omega
    have hblk' : ∀ b, (Value.slice (some ⟨g1, 0, none⟩) (i + m) cap1).ownBlock = some b → b = g ∨ w.heap.size ≤ b := fun b hb => (hblk b hb).imp (fun h => by simp [Value.ownBlock] at h; exact h.symm) id
    by_cases hcut : i + m < n
    · obtain ⟨cu, hcu, hcz⟩ := fr_at hfr' hg
      have hfit : (i + m) * 3 + (Builtin.zeroCells ((.agg #[.int .i64 0, .int .i64 0, .int .i64 0]) : Value).cells (n - (i + m))).toList.length ≤ cu.size := by rw [lz]; omega
      refine (rep_cut_id g n c i j m vc cap1 a ⟨g1, 0, none⟩ w w1 _ hij hjn hnc (by omega) hcm' hcut (by omega) hr (fun ty kc => run_clear_rows w1 29 122 ty (.agg #[.int .i64 0, .int .i64 0, .int .i64 0]) uS_id zv_id h1z g ((i + m) * 3) (n - (i + m)) kc (by omega) cu e' hcu (by omega))).mono ?_
      rintro en w' ⟨rfl, rfl⟩
      refine ⟨_, rfl, ⟨e2, ?_⟩, hfr'.trans (fr_row hcu (spl_size (by omega))), hblk'⟩
      rw [hys, show i + m + (n - j) = i + m by omega]
      exact own_clear hown0 hcu (by omega) (by omega)
    · refine (rep_end_id g n c i j m vc cap1 a ⟨g1, 0, none⟩ w w1 hij hjn hnc (by omega) hcm' (by omega) (by omega) hr).mono ?_
      rintro en w' ⟨rfl, rfl⟩
      refine ⟨_, rfl, ⟨e2, ?_⟩, hfr', hblk'⟩
      rw [hys, show i + m + (n - j) = i + m by omega]
      exact hown0
  · have hj' : j < n := by omega
    obtain ⟨cs, hcsd⟩ : ∃ cs, cs = xs.drop (j * 3) := ⟨_, rfl⟩
    have hcl : cs.length = (n - j) * 3 := by rw [hcsd, List.length_drop]; omega
    have h1s : ∀ v ∈ cs, v.oneCell' = true := fun v hv => h1c v (by rw [hcsd] at hv; exact List.mem_of_mem_drop hv)
    have htd : (cur.toList.drop (j * 3)).take ((n - j) * 3) = cs := by rw [hcsd, ← htk, List.drop_take]; congr 1; omega
    have hys : (xs.take (i * 3) ++ vs ++ cs).length = (i + m + (n - j)) * 3 := by
      rw [List.length_append, List.length_append, List.length_take]; omega
    rw [← hcsd]
    have hmin : Nat.min m (i + m + (n - j) - i) = m := by simp only [Nat.min_def]; split <;> omega
    have hmin2 : Nat.min (n - j) (n - j) = n - j := Nat.min_self _
    by_cases hroom : i + m + (n - j) ≤ c
    · by_cases hgr : j < i + m
      · have hfa : (i + m) * 3 + cs.length ≤ cur.size := by omega
        have hfb : i * 3 + vs.length ≤ (spl cur ((i + m) * 3) cs).size := by rw [spl_size hfa]; omega
        obtain ⟨tB, kB, hsb, hkB⟩ := shape_of (by omega) hv
        refine (rep_room_id g n c i j m vc a w (fun q => (w.drewN q).setRow g (spl cur ((i + m) * 3) cs)) (fun q => ((w.drewN q).setRow g (spl cur ((i + m) * 3) cs)).setRow g (spl (spl cur ((i + m) * 3) cs) (i * 3) vs)) hij hj' hnc (by omega) hcm' hgr (by omega) hroom ?_ ?_ ?_).mono ?_
        · intro q lb cb
          rw [run_callFunc_extern Try.func227 (by kernel_rfl) (by kernel_rfl) (by kernel_rfl) (e := Extern.SlicesOverlaps.overlaps #[29, 29] #[4]) (by kernel_rfl),
            Lib.run_overlaps_apart (w.drewN q) 29 4 122 uS_id 3 su_id ⟨g, ((i + m) * 3), none⟩ a lb cb m vc (fun h => hva h.symm) e' tB cur.size kB (by simp [World.shape?, hg]) (by simpa [World.shape?] using hsb) hkB (by simp [World.frozen?, hg]) (by simp [World.frozen?, hg])]
          rfl
        · intro q ty dc sc
          have := run_copy_rows (P := Try.prog) (w.drewN q) 29 29 ty 122 3 g ((i + m) * 3) (n - j) dc ⟨g, j * 3, none⟩ (n - j) sc cur e' cs uS_id sz_id hg (by rw [hcl, hmin2]) (fun q' v hq => by rw [Addr.add_lit]; simpa [World.cell?, hg] using get_drop htd q' v hq) hfa h1s
          rw [hmin2] at this
          simpa using this
        · intro q ty dc
          have := run_copy_rows (P := Try.prog) ((w.drewN q).setRow g (spl cur ((i + m) * 3) cs)) 29 29 ty 122 3 g (i * 3) (i + m + (n - j) - i) dc a m vc (spl cur ((i + m) * 3) cs) e' vs uS_id sz_id (setRow_heap _ g cur _ e' _ hg) (by rw [hvl, hmin]) (fun q' v hq => by rw [cell_setRow hva]; exact hv q' v hq) hfb h1v
          rw [hmin] at this
          simpa using this
        · rintro en w' ⟨q, rfl, rfl⟩
          refine ⟨_, rfl, ⟨e', ?_⟩, ?_, fun b hb => .inl (by simp [Value.ownBlock] at hb; exact hb.symm)⟩
          · refine own_make (setRow_heap _ g _ _ e' _ (setRow_heap _ g cur _ e' _ hg)) hys hroom hcm (by rw [spl_size hfb, spl_size hfa]; exact hcs) ?_
            have d1 : (spl cur ((i + m) * 3) cs).toList.drop ((i + m) * 3) = cs ++ cur.toList.drop ((i + m) * 3 + cs.length) := by
              show List.drop _ (cur.toList.take ((i + m) * 3) ++ cs ++ cur.toList.drop ((i + m) * 3 + cs.length)) = _
              rw [List.append_assoc, List.drop_left' (by rw [List.length_take]; omega)]
            show List.take _ ((spl cur ((i + m) * 3) cs).toList.take (i * 3) ++ vs ++ (spl cur ((i + m) * 3) cs).toList.drop (i * 3 + vs.length)) = _
            rw [show i * 3 + vs.length = (i + m) * 3 by omega, d1, spl_take_lo (by omega) (by omega), htA, ← List.append_assoc]
            exact List.take_left' (by rw [← htA]; exact hys)
          · rw [setRow_setRow]
            exact (((fr_drewN w q).mono fun _ _ _ h => h.elim).trans (fr_row (w := w.drewN q) hg (by rw [spl_size hfb, spl_size hfa])))
      · have hfa : i * 3 + vs.length ≤ cur.size := by omega
        have hfb : (i + m) * 3 + cs.length ≤ (spl cur (i * 3) vs).size := by rw [spl_size hfa]; omega
        have hfc : (i + m + (n - j)) * 3 + (Builtin.zeroCells ((.agg #[.int .i64 0, .int .i64 0, .int .i64 0]) : Value).cells (n - (i + m + (n - j)))).toList.length ≤ (spl (spl cur (i * 3) vs) ((i + m) * 3) cs).size := by rw [spl_size hfb, spl_size hfa, lz]; omega
        have htd1 : ((spl cur (i * 3) vs).toList.drop (j * 3)).take ((n - j) * 3) = cs := by rw [spl_drop_hi (by omega) hfa]; exact htd
        refine (rep_less_id g n c i j m vc a w (fun q => (w.drewN q).setRow g (spl cur (i * 3) vs)) (fun q => ((w.drewN q).setRow g (spl cur (i * 3) vs)).drew.setRow g (spl (spl cur (i * 3) vs) ((i + m) * 3) cs)) (fun q => (((w.drewN q).setRow g (spl cur (i * 3) vs)).drew.setRow g (spl (spl cur (i * 3) vs) ((i + m) * 3) cs)).setRow g (spl (spl (spl cur (i * 3) vs) ((i + m) * 3) cs) ((i + m + (n - j)) * 3) (Builtin.zeroCells ((.agg #[.int .i64 0, .int .i64 0, .int .i64 0]) : Value).cells (n - (i + m + (n - j)))).toList)) hij hj' hnc (by omega) hcm' (by omega) (by omega) ?_ ?_ ?_).mono ?_
        · intro q ty dc
          have := run_copy_rows (P := Try.prog) (w.drewN q) 29 29 ty 122 3 g (i * 3) (i + m + (n - j) - i) dc a m vc cur e' vs uS_id sz_id hg (by rw [hvl, hmin]) hv hfa h1v
          rw [hmin] at this
          simpa using this
        · intro q ty dc sc
          have hh : ((w.drewN q).setRow g (spl cur (i * 3) vs)).drew.heap[g]? = some (.cells (spl cur (i * 3) vs) e' (0, 0)) := setRow_heap _ g cur _ e' _ hg
          have := run_copy_rows (P := Try.prog) ((w.drewN q).setRow g (spl cur (i * 3) vs)).drew 29 29 ty 122 3 g ((i + m) * 3) (n - j) dc ⟨g, j * 3, none⟩ (n - j) sc _ e' cs uS_id sz_id hh (by rw [hcl, hmin2]) (fun q' v hq => cell_at hh (get_drop htd1 q' v hq)) hfb h1s
          rw [hmin2] at this
          simpa using this
        · intro q ty kc
          have := run_clear_rows (P := Try.prog) _ 29 122 ty (.agg #[.int .i64 0, .int .i64 0, .int .i64 0]) uS_id zv_id h1z g ((i + m + (n - j)) * 3) (n - (i + m + (n - j))) kc (by omega) _ e' (setRow_heap ((w.drewN q).setRow g (spl cur (i * 3) vs)).drew g _ (spl (spl cur (i * 3) vs) ((i + m) * 3) cs) e' _ (setRow_heap (w.drewN q) g cur _ e' _ hg)) hfc
          simpa using this
        · rintro en w' ⟨q, rfl, rfl⟩
          refine ⟨_, rfl, ⟨e', ?_⟩, ?_, fun b hb => .inl (by simp [Value.ownBlock] at hb; exact hb.symm)⟩
          · refine own_make (setRow_heap _ g _ _ e' _ (setRow_heap _ g _ _ e' _ (setRow_heap (w.drewN q) g cur _ e' _ hg))) hys hroom hcm (by rw [spl_size hfc, spl_size hfb, spl_size hfa]; exact hcs) ?_
            rw [spl_take_lo (by omega) (by rw [spl_size hfb, spl_size hfa]; omega)]
            have e1 := spl_take hfb
            rw [show (i + m) * 3 + cs.length = (i + m + (n - j)) * 3 by omega] at e1
            rw [e1]
            have e2 := spl_take hfa
            rw [show i * 3 + vs.length = (i + m) * 3 by omega] at e2
            rw [e2, htA]
          · have f1 := fr_row (w := w.drewN q) hg (spl_size hfa)
            have g1 := setRow_heap (w.drewN q) g cur (spl cur (i * 3) vs) e' _ hg
            have f2 := fr_row (w := ((w.drewN q).setRow g (spl cur (i * 3) vs)).drew) g1 (spl_size hfb)
            have g2 := setRow_heap ((w.drewN q).setRow g (spl cur (i * 3) vs)).drew g _ (spl (spl cur (i * 3) vs) ((i + m) * 3) cs) e' _ g1
            have f3 := fr_row g2 (spl_size hfc)
            exact ((fr_drewN w q).mono fun _ _ _ h => h.elim).trans (f1.trans (((fr_drew _).mono fun _ _ _ h => h.elim).trans (f2.trans f3)))
    · obtain ⟨ROW, hROW⟩ : ∃ ROW : Nat → Array Value, ROW = fun q => (xs.take (i * 3)).toArray ++ Builtin.zeroCells ((.agg #[.int .i64 0, .int .i64 0, .int .i64 0]) : Value).cells (m + (n - j)) ++ Builtin.zeroCells ((.agg #[.int .i64 0, .int .i64 0, .int .i64 0]) : Value).cells (grownCap (w.drewN q) (i + (m + (n - j))) c 122 - (i + (m + (n - j)))) := ⟨_, rfl⟩
      obtain ⟨G, hGd⟩ : ∃ G : Nat → Nat, G = fun q => grownCap (w.drewN q) (i + (m + (n - j))) c 122 := ⟨_, rfl⟩
      have hG : ∀ q, i + m + (n - j) ≤ G q := fun q => by have := grownCap_ge (w.drewN q) (i + (m + (n - j))) c 122; rw [hGd]; show i + m + (n - j) ≤ grownCap (w.drewN q) (i + (m + (n - j))) c 122; omega
      have hGm : ∀ q, G q ≤ maxLen := fun q => by rw [hGd]; exact grownCap_le_maxLen _ _ _ _ (by unfold maxLen; omega)
      have hrs : ∀ q, (ROW q).size = G q * 3 := fun q => by
        have := hG q
        rw [hGd] at this ⊢
        rw [hROW]
        simp only [Array.size_append, List.size_toArray, List.length_take]
        rw [← Array.length_toList (xs := Builtin.zeroCells _ _), lz, ← Array.length_toList (xs := Builtin.zeroCells _ _), lz]
        simp only at this
        omega
      have hrt : ∀ q, (ROW q).toList.take (i * 3) = xs.take (i * 3) := fun q => by
        rw [hROW]
        simp only [Array.toList_append, List.append_assoc]
        exact List.take_left' (by rw [List.length_take]; omega)
      have hap : ∀ q, (Builtin.append_ #[29, 3] 29 #[.slice (some ⟨g, 0, none⟩) i c, .int .i64 ((i : Int) + (m : Int) + ((n - j : Nat) : Int) - (i : Int))]).run Try.prog (w.drewN q) = .ok (.slice (some ⟨w.heap.size, 0, none⟩) (i + m + (n - j)) (G q)) ((w.drewN q).drew.alloc (.cells (ROW q) 122)) := fun q => by
        have hold : (Builtin.firstCells i0.size i (.slice (some ⟨g, 0, none⟩) i c)).run Try.prog (w.drewN q).drew = .ok (xs.take (i * 3)).toArray (w.drewN q).drew := by
          rw [hzs]
          exact run_firstCells_some _ 3 i ⟨g, 0, none⟩ i c _ (by rw [List.length_take]; omega) (fun q' v hq => by
            rw [Addr.add_lit]
            have := get_drop (cur := cur) (o := 0) (L := i * 3) (cs := xs.take (i * 3)) (by rw [List.drop_zero, htA]) q' v hq
            simpa [World.cell?, hg] using this)
        have h := Lib.run_append_grow_zeros (P := Try.prog) (w.drewN q) 29 3 29 122 i0 (.agg #[.int .i64 0, .int .i64 0, .int .i64 0]) .i64 .i64 uS_id (by kernel_rfl) hi hz0 (some ⟨g, 0, none⟩) i c (xs.take (i * 3)) hold (m + (n - j)) (by omega) (by omega) (by omega) (by omega) (by rw [hzb]; omega) (by rw [hzb]; exact growslice_fits (by omega) (by omega))
        rw [show (i : Int) + (m : Int) + ((n - j : Nat) : Int) - (i : Int) = ((m + (n - j) : Nat) : Int) by omega, show i + m + (n - j) = i + (m + (n - j)) by omega, hGd, hROW]
        exact h
      have hfa : ∀ q, i * 3 + vs.length ≤ (ROW q).size := fun q => by rw [hrs q]; have := hG q; omega
      have hfb : ∀ q, (i + m) * 3 + cs.length ≤ (spl (ROW q) (i * 3) vs).size := fun q => by rw [spl_size (hfa q), hrs q]; have := hG q; omega
      have hnew : ∀ q, ((w.drewN q).drew.alloc (.cells (ROW q) 122)).heap[w.heap.size]? = some (.cells (ROW q) 122 (0, 0)) := fun q => heap_alloc_new (w.drewN q).drew _
      have hold : ∀ q b, b < w.heap.size → ((w.drewN q).drew.alloc (.cells (ROW q) 122)).heap[b]? = w.heap[b]? := fun q b hb => by
        show (w.heap.push _)[b]? = _
        rw [Array.getElem?_push, if_neg (by omega)]
      have hab : a.block < w.heap.size := block_lt_of_cell (hv 0 _ (List.getElem?_eq_getElem (show 0 < vs.length by omega)))
      refine (rep_new_id g n c i j m vc w.heap.size a w G (fun q => (w.drewN q).drew.alloc (.cells (ROW q) 122)) (fun q => ((w.drewN q).drew.alloc (.cells (ROW q) 122)).setRow w.heap.size (spl (ROW q) (i * 3) vs)) (fun q => (((w.drewN q).drew.alloc (.cells (ROW q) 122)).setRow w.heap.size (spl (ROW q) (i * 3) vs)).drew.setRow w.heap.size (spl (spl (ROW q) (i * 3) vs) ((i + m) * 3) cs)) hij hj' hnc (by omega) hcm' (by omega) (by omega) hG hap ?_ ?_).mono ?_
      · intro q ty dc
        have := run_copy_rows (P := Try.prog) ((w.drewN q).drew.alloc (.cells (ROW q) 122)) 29 29 ty 122 3 w.heap.size (i * 3) (i + m + (n - j) - i) dc a m vc (ROW q) 122 vs uS_id sz_id (hnew q) (by rw [hvl, hmin]) (fun q' v hq => by
          rw [← hv q' v hq]; simp only [World.cell?, addr_block]; rw [hold q a.block hab]) (hfa q) h1v
        rw [hmin] at this
        simpa using this
      · intro q ty dc sc
        have hh : (((w.drewN q).drew.alloc (.cells (ROW q) 122)).setRow w.heap.size (spl (ROW q) (i * 3) vs)).drew.heap[w.heap.size]? = some (.cells (spl (ROW q) (i * 3) vs) 122 (0, 0)) := setRow_heap _ _ _ _ 122 _ (hnew q)
        have hh2 : (((w.drewN q).drew.alloc (.cells (ROW q) 122)).setRow w.heap.size (spl (ROW q) (i * 3) vs)).drew.heap[g]? = some (.cells cur e' (0, 0)) := by
          show (((w.drewN q).drew.alloc (.cells (ROW q) 122)).setRow w.heap.size (spl (ROW q) (i * 3) vs)).heap[g]? = _
          rw [setRow_other _ w.heap.size g _ (by omega), hold q g hlt]; exact hg
        have := run_copy_rows (P := Try.prog) (((w.drewN q).drew.alloc (.cells (ROW q) 122)).setRow w.heap.size (spl (ROW q) (i * 3) vs)).drew 29 29 ty 122 3 w.heap.size ((i + m) * 3) (n - j) dc ⟨g, j * 3, none⟩ (n - j) sc _ 122 cs uS_id sz_id hh (by rw [hcl, hmin2]) (fun q' v hq => cell_at hh2 (get_drop htd q' v hq)) (hfb q) h1s
        rw [hmin2] at this
        simpa using this
      · rintro en w' ⟨q, rfl, rfl⟩
        refine ⟨_, rfl, ⟨122, ?_⟩, ?_, fun b hb => .inr (by simp [Value.ownBlock] at hb; omega)⟩
        · refine own_make (setRow_heap _ _ _ _ 122 _ (setRow_heap _ _ _ _ 122 _ (hnew q))) hys (hG q) (hGm q) (by rw [spl_size (hfb q), spl_size (hfa q)]; exact hrs q) ?_
          have e1 := spl_take (hfb q)
          rw [show (i + m) * 3 + cs.length = (i + m + (n - j)) * 3 by omega] at e1
          rw [e1]
          have e2 := spl_take (hfa q)
          rw [show i * 3 + vs.length = (i + m) * 3 by omega] at e2
          rw [e2, hrt q]
        · have f0 : Fr (fun b _ => b = g ∨ w.heap.size ≤ b) w ((w.drewN q).drew.alloc (.cells (ROW q) 122)) := ((fr_drewN w q).mono fun _ _ _ h => h.elim).trans (((fr_drew _).mono fun _ _ _ h => h.elim).trans ((fr_alloc _ _).mono fun _ _ _ h => h.elim))
          have f1 := fr_new f0 (Nat.le_refl _) (hnew q) (spl_size (hfa q))
          have f2 := fr_new (f1.trans ((fr_drew _).mono fun _ _ _ h => h.elim)) (Nat.le_refl _) (setRow_heap _ _ _ _ 122 _ (hnew q)) (spl_size (hfb q))
          exact f2.mono fun x y hx h => h.elim id fun h => by omega
end Go.Proofs.Ytfgccfajhedgdaa
