/- The evaluator: conversions; every operation that calls no function. -/
import Derived.Test.YtfgccfajhedgdaaE9
import Derived.Laws.IdiomStrings
namespace Go.Ev
set_option linter.unusedSimpArgs false
set_option linter.unusedVariables false
open Go Go.RowKit
section
variable {cal : Nat → List D → Option (List D)} {l : List Ac} {v : AV} {w0 : World} {M : Nat → Nat → Prop} {ρ : Env} {g : Hp} {w w' : World} {P : Program}
theorem foldl_push (ns : List Int) : ∀ r : ByteArray, ns.foldl (fun r n => r.push (UInt8.ofNat n.toNat)) r = ⟨r.data ++ (ns.map fun n => UInt8.ofNat n.toNat).toArray⟩ := by
  induction ns with
  | nil => intro r; simp
  | cons n ns ih => intro r; rw [List.foldl_cons, ih]; simp [ByteArray.push]
theorem bytesToString_ok {x : Option Addr} {c : Nat} {ns : List Int} (h : ns.length ≠ 0 → ∃ b, x = some b ∧ CellsL w b (ns.map (Value.int .u8))) :
    (Conv.bytesToString (.slice x ns.length c)).run P w = .ok (.string (strL ns)) w := by
  have he : ByteArray.empty.data = #[] := rfl
  cases x with
  | none =>
    have : ns = [] := by
      rcases ns with _ | ⟨n, ns⟩
      · rfl
      · obtain ⟨b, hb, _⟩ := h (by simp); cases hb
    subst this
    simp [Conv.bytesToString, strL]; rfl
  | some a =>
    have hl := run_loadCells_list (P := P) w a (ns.map (Value.int .u8)) (fun j v hj => by
      rcases ns with _ | ⟨n, ns⟩
      · simp at hj
      · obtain ⟨b, hb, hc⟩ := h (by simp)
        cases hb
        exact hc j v hj)
    rw [List.length_map] at hl
    rw [run_bytesToString w a ns.length c ns hl, foldl_push, he]
    simp [strL]
theorem convP_ok {src dst : TypeId} {x : AV} {xv : Value} (S : Sit cal (convP P src dst x) l v w0 M ρ g w) (hx : RepV ρ x xv) :
    SemOk P (convert src dst xv) l v w0 M ρ g w := by
  unfold convP at S
  split at S
  · rename_i hs hd
    have hs := under_some hs (by simp)
    have hd := under_some hd (by simp)
    simp only [RepV] at hx
    subst hx
    exact ⟨_, w, by simp [convert, run_underlying hs, run_underlying hd, Conv.intToInt]; rfl, ret_ok S (by simp [RepV])⟩
  · rename_i hs hd
    have hs := under_some hs (by simp)
    have hd := under_some hd (by simp)
    simp only [RepV] at hx
    subst hx
    exact ⟨_, w, by simp [convert, run_underlying hs, run_underlying hd]; rfl, ret_ok S (by simp [RepV])⟩
  · rename_i e s hs hd
    have hs := under_some hs (by simp)
    have hd := under_some hd (by simp)
    simp only [RepV] at hx
    subst hx
    split at S
    · rename_i he
      have he := under_some he (by simp)
      refine ⟨_, _, run_bytes_of_string w src dst e s hs hd he, ?_⟩
      obtain ⟨id, l', rfl, hn, hdd, hS⟩ := S.new
      have hsz : s.data.size = s.size := rfl
      have hbl : (bytesL s).length = s.size := by simp only [bytesL, List.length_map, Array.length_toList]; rfl
      have hfr : Fr (fun _ _ => False) w (w.drew.alloc (.cells (bytesRow s (grownCap w s.size 0 e)) e ((bytesRow s (grownCap w s.size 0 e)).size, (bytesRow s (grownCap w s.size 0 e)).size + 1))) :=
        (fr_drew w).trans (fr_alloc w.drew _)
      have I := S.inv.new (id := id) (p := ⟨some ⟨w.heap.size, 0, none⟩, s.size, grownCap w s.size 0 e, 1⟩) (e := .arr false false (.ints .u8 (bytesL s))) hn hfr
        ⟨hbl, rfl, by simp, by simp, by
          intro x hx
          cases hx
          refine ⟨grownCap_ge _ _ _ _, ?_⟩
          intro j u hj
          have had : (⟨w.heap.size, 0, none⟩ : Addr).add j = ⟨w.heap.size, j, none⟩ := by unfold Addr.add; split <;> simp_all
          rw [had]
          have := World.cell?_alloc_mark w.drew (bytesRow s (grownCap w s.size 0 e)) e ((bytesRow s (grownCap w s.size 0 e)).size, (bytesRow s (grownCap w s.size 0 e)).size + 1) j
          refine this.trans ?_
          have hjs : j < s.data.size := by
            have := (List.getElem?_eq_some_iff.1 hj).1
            simpa [Arr.cells, bytesL] using this
          rw [bytesRow_at s _ j hjs, ← hj]
          simp [Arr.cells, bytesL]
          rw [Array.getElem?_eq_getElem hjs]; rfl, by simp⟩
        (.inr ⟨rfl, fun j q hq ho b off hf hf' => by
          obtain ⟨x, hx, rfl, _⟩ := hf'
          cases hx
          have hnd : g j ≠ .dead := by intro h0; rw [h0] at hf; exact hf
          obtain ⟨q', hq', hrq⟩ := S.inv.ok.rep j hnd
          rw [hq] at hq'; cases hq'
          have := hrq.lt' _ off hf
          simp at this⟩)
      obtain ⟨rfl, rfl⟩ := (hS _ _ I).ret
      refine Fin.new hn (Fin.here I ?_)
      simp only [RepV]
      exact ⟨_, updρ_same _ _ _, rfl⟩
    · exact S.fail
  · rename_i e id wn hs hd
    have hs := under_some hs (by simp)
    have hd := under_some hd (by simp)
    simp only [RepV] at hx
    obtain ⟨p, hp, hxs⟩ := hx
    split at S
    · rename_i he
      have he := under_some he (by simp)
      have S0 := S.rd; clear S; obtain ⟨l2, rfl, S⟩ := S0
      split at S
      · rename_i own nil a hg
        obtain ⟨q, hq, hr⟩ := S.inv.ok.rep id (by rw [hg]; simp)
        rw [hp] at hq; cases hq
        rw [hg] at hr
        obtain ⟨x, c, rfl, hlc, hoff, hbase⟩ := lenW_ok hr hxs
        obtain ⟨k1, k2, k3, k4, k5, k6⟩ := hr
        have main : ∀ (lz ns : List Int), a = .ints .u8 lz → lenW wn a = ns.length → (∀ j : Nat, ns[j]? = if j < ns.length then lz[offW wn + j]? else none) → Sit cal (.ret (.str (strL ns))) l2 v w0 M ρ g w →
            SemOk P (convert src dst (.slice x (lenW wn a) c)) (.rd id (g id) :: l2) v w0 M ρ g w := by
          intro lz ns ha hl hns S2
          subst ha
          refine ⟨.string (strL ns), w, ?_, (ret_ok S2 (by simp [RepV])).rd⟩
          rw [run_convert_bytes_string w src dst e x _ c hs he hd, hl]
          refine bytesToString_ok fun h0 => ?_
          obtain ⟨b, hb, rfl⟩ := hbase (by rw [hl]; exact h0)
          refine ⟨_, rfl, fun j u hj => ?_⟩
          rw [addr_add_add]
          have hjl : j < ns.length := by simpa using (List.getElem?_eq_some_iff.1 hj).1
          refine (k5 b hb).2 (offW wn * p.size + j) u ?_
          rw [← k2]
          simp only [Arr.size, Nat.mul_one, Arr.cells, List.getElem?_map]
          have := hns j
          rw [if_pos hjl] at this
          rw [← this, ← hj]
          simp
        split at S
        · split at S
          · rename_i lz
            exact main lz lz rfl rfl (fun j => by
              simp only [offW, Nat.zero_add]
              by_cases hj : j < lz.length
              · rw [if_pos hj]
              · rw [if_neg hj]; simp; omega) S
          · exact S.fail
        · rename_i o n
          split at S
          · rename_i lz
            simp only [lenW, offW] at hoff
            simp only [Arr.len] at k1
            exact main lz ((lz.drop o).take n) rfl (by simp [lenW]; omega) (fun j => by
              simp only [offW, List.length_take, List.length_drop, List.getElem?_take, List.getElem?_drop]
              by_cases hj : j < n
              · rw [if_pos hj, if_pos (by omega)]
              · rw [if_neg hj, if_neg (by omega)]) S
          · exact S.fail
      · exact S.fail
    · exact S.fail
  · exact S.fail
end
end Go.Ev
