/- A word and numbers behind spaces: the run of the program's writer. -/
import Derived.Test.YtjfjniebmdafeaaDoorSH
import Derived.Test.YtjfjniebmdafeaaDoorSB
import Derived.WalkKit
import Derived.BigCall
import Derived.KernelRfl
namespace Go.Proofs.YtjfjniebmdafeaaDoor
open Go.RowKit Go.Lib Go.Ev Go.Shelf Go.Sort
set_option linter.unusedVariables false
set_option linter.unusedSimpArgs false
theorem tab_of {w : World} (h : Kept w) {nm : String} (hn : Tryd.prog.globalNamed nm = some 5) : Lib.TabIs Tryd.prog w nm .u64 Lib.pow10Tab := by
  obtain ⟨t, z, e⟩ := h _ (List.mem_singleton.2 rfl)
  unfold Lib.TabIs World.var?
  rw [hn]
  simp only [Option.bind_some]
  rw [e]
theorem kept_of_tab {w : World} {nm : String} (hn : Tryd.prog.globalNamed nm = some 5) (h : Lib.TabIs Tryd.prog w nm .u64 Lib.pow10Tab) : Kept w := by
  intro x hx
  obtain rfl := List.mem_singleton.1 hx
  unfold Lib.TabIs World.var? at h
  rw [hn] at h
  simp only [Option.bind_some] at h
  show ∃ t z, w.heap[5]? = some (.cells (Lib.pow10Tab.map fun z => Value.int .u64 z).toArray t z)
  split at h
  · rename_i cs t z e
    exact ⟨t, z, by rw [e]; rw [Option.some.inj h]⟩
  · cases h
theorem kept_below {w w' : World} (h : Kept w) (b : Below w.heap.size w w') : Kept w' :=
  h.frame (M := fun _ _ => False) (fr_of_below b) (fun _ _ _ h => h)
theorem itoa_c (n : Int) (hn : inI64 n = true) (w : World) (hk : Kept w) : Calls Tryd.prog 76 #[.int .i64 n] w fun e w' => e = .returned (.string ⟨(Lib.itoa n).toArray⟩) ∧ Below w.heap.size w w' := by
  unfold inI64 at hn
  simp only [Bool.and_eq_true, decide_eq_true_eq] at hn
  refine (Any.strconv_Itoa Tryd.laysM171 n hn.1 hn.2 w (tab_of hk (by kernel_rfl))).mono ?_
  rintro e w' ⟨rfl, k, os, rfl⟩
  exact ⟨rfl, (below_drewN w w.heap.size k).trans (below_grow (w.drewN k) os)⟩
theorem fmt_c (n : Int) (hn : inI64 n = true) (w : World) (hk : Kept w) : Calls Tryd.prog 37 #[.int .i64 n] w fun e w' => e = .returned (.string ⟨(Lib.itoa n).toArray⟩) ∧ Below w.heap.size w w' := by
  have c := itoa_c n hn w hk
  generalize (⟨(Lib.itoa n).toArray⟩ : ByteArray) = s at c ⊢
  go_enter Tryd.func37, Tryd.ntmps37
  go_wp2_with (go_at_call 76; refine c.mono ?_; rintro e w' ⟨rfl, hb⟩)
  go_ret
  exact ⟨rfl, hb⟩
theorem ownsRow_below' {B : Nat} {e : TypeId} {k : Nat} {v : Value} {n : Nat} {xs : List Value} {w w' : World} (h : w.ownsRow B e k v n xs) (hb : RowKit.Below w.heap.size w w') : w'.ownsRow B e k v n xs := by
  obtain ⟨h1, h2⟩ := h
  refine ⟨h1, h2.imp (fun h => h) ?_⟩
  rintro ⟨g, cap, cur, h3, h4, h5, h6⟩
  exact ⟨g, cap, cur, h3, h4, (hb.block g ((Array.getElem?_eq_some_iff.1 h5).1)).trans h5, h6⟩
theorem builder_below {T e : TypeId} {B b : Nat} {p : Value} {bs : List Value} {w w' : World} (h : BuilderAt T e B b p bs w) (hb : RowKit.Below w.heap.size w w') : BuilderAt T e B b p bs w' := by
  have lt := h.lt
  obtain ⟨hB, v, h1, h2, h3⟩ := h
  exact ⟨hB, v, (hb.block b lt).trans h1, ownsRow_below' h2 hb, h3⟩
theorem nDigits_le : ∀ (k u : Nat), u < 10 ^ (k + 1) → Lib.nDigits u ≤ k + 1
  | 0, u, h => by rw [Lib.nDigits, dif_pos (by simpa using h)]; exact Nat.le_refl 1
  | k + 1, u, h => by
    rw [Lib.nDigits]
    split
    · omega
    · have := nDigits_le k (u / 10) (by rw [Nat.pow_succ] at h; omega)
      omega
theorem itoa_size (x : Int) (h : inI64 x = true) : (Lib.itoa x).length ≤ 20 := by
  unfold inI64 at h
  simp only [Bool.and_eq_true, decide_eq_true_eq] at h
  unfold Lib.itoa
  split
  · rw [List.length_cons, Lib.decDigits_length]
    have := nDigits_le 18 x.natAbs (by omega)
    omega
  · rw [Lib.decDigits_length]
    have := nDigits_le 18 x.toNat (by omega)
    omega
theorem flat_len (xs : List Int) (h : ∀ x ∈ xs, inI64 x = true) : (xs.flatMap fun n => 32 :: Lib.itoa n).length ≤ 21 * xs.length := by
  induction xs with
  | nil => simp
  | cons x l ih =>
    have a := itoa_size x (h x List.mem_cons_self)
    have b := ih fun y hy => h y (List.mem_cons_of_mem _ hy)
    simp only [List.flatMap_cons, List.length_append, List.length_cons] at b ⊢
    omega
theorem run_len (word : ByteArray) (xs : List Int) (k : Nat) (hl : xs.length ≤ 1000) (h : ∀ x ∈ xs, inI64 x = true) : (byteCells (spacedL word.data.toList (xs.take k))).length ≤ word.size + 21000 := by
  have a := flat_len (xs.take k) fun x hx => h x (List.mem_of_mem_take hx)
  have b : (xs.take k).length ≤ xs.length := by rw [List.length_take]; omega
  rw [byteCells_length, spacedL, List.length_append, Array.length_toList]
  have : word.data.size = word.size := rfl
  omega
theorem run_snoc (word : ByteArray) (xs : List Int) (k : Nat) (x : Int) (h : xs[k]? = some x) : byteCells (spacedL word.data.toList (xs.take (k + 1))) = byteCells (spacedL word.data.toList (xs.take k)) ++ byteCells (32 :: Lib.itoa x) := by
  obtain ⟨hk, hx⟩ := List.getElem?_eq_some_iff.1 h
  rw [List.take_succ_eq_append_getElem hk, hx, ← byteCells_append]
  simp [spacedL]
theorem spaced_walk (word : ByteArray) (xs : List Int) (b : Addr) (c : Nat) (w : World) (hk : Kept w) (hw : word.size ≤ 1000) (hl : xs.length ≤ 1000) (hx : ∀ x ∈ xs, inI64 x = true) (hc : ∀ i x, xs[i]? = some x → w.cell? (b.add i) = some (.int .i64 x)) :
    Calls Tryd.prog 36 #[.string word, .slice (some b) xs.length c] w fun e w' => e = .returned (.string ⟨(spacedL word.data.toList xs).toArray⟩) ∧ Below w.heap.size w w' := by
  have h0 : Lib.IsBuilder 118 5 w.heap.size w.heap.size [] (w.alloc (.cells #[.pointer none, .slice none 0 0] 118)) := Lib.fresh_isBuilder 118 5 w
  have b0 : Below w.heap.size w (w.alloc (.cells #[.pointer none, .slice none 0 0] 118)) := (Below.refl _ w).alloc (Nat.le_refl _) _
  go_enter Tryd.func36, Tryd.ntmps36
  go_wp2_with (go_at_call 74; refine (Tryd.Builder_WriteString w.heap.size w.heap.size [] word _ h0 (by simp; omega) b0.size).mono ?_)
  rintro e W1 ⟨rfl, h1, b1⟩
  have h1' : BuilderAt 118 5 w.heap.size w.heap.size (.pointer (some ⟨w.heap.size, 0, none⟩)) (byteCells (spacedL word.data.toList (xs.take 0))) W1 := by
    rw [List.nil_append, strCells_eq] at h1
    simpa [spacedL] using h1
  have b1' := b0.trans b1
  clear h0 b0 h1 b1
  go_wp2
  go_loopw [13] (fun i wr => ∃ k : Nat, k ≤ xs.length ∧ i = .int .i64 k ∧ BuilderAt 118 5 w.heap.size w.heap.size (.pointer (some ⟨w.heap.size, 0, none⟩)) (byteCells (spacedL word.data.toList (xs.take k))) wr ∧ RowKit.Below w.heap.size w wr) (fun i _ => xs.length - (RowKit.intOf i).toNat)
  case atStart => exact ⟨0, Nat.zero_le _, rfl, h1', b1'⟩
  case round =>
    obtain ⟨k, hkl, rfl, hB, hnx⟩ := hrel
    clear h1' b1'
    have hR := run_len word xs k hl hx
    by_cases hlt : k < xs.length
    · obtain ⟨x, ex⟩ : ∃ x, xs[k]? = some x := ⟨_, List.getElem?_eq_getElem hlt⟩
      have e0 : wr.cell? (b.add k) = some (.int .i64 x) := (hnx.cell (World.block_lt_of_cell? _ _ (hc k x ex))).trans (hc k x ex)
      have cF := fmt_c x (hx x (List.mem_of_getElem? ex)) wr (kept_below hk hnx)
      have hS := run_snoc word xs k x ex
      have hsz := itoa_size x (hx x (List.mem_of_getElem? ex))
      go_wp2_with (go_at_call 37; refine cF.mono ?_)
      rintro e W2 ⟨rfl, b2⟩
      have hB2 := builder_below hB b2
      have b2' := hnx.trans (b2.mono hnx.size)
      clear cF e0 hB hnx b2
      go_wp2_with (go_at_call 74; refine (Tryd.Builder_WriteString w.heap.size w.heap.size _ _ _ (Or.inr hB2) ?_ b2'.size).mono ?_)
      · rw [ByteArray.size_append]
        have s1 : ({ data := (Lib.itoa x).toArray } : ByteArray).size = (Lib.itoa x).length := List.size_toArray ..
        have s2 : ({ data := #[32] } : ByteArray).size = 1 := rfl
        omega
      rintro e W3 ⟨rfl, h3, b3⟩
      go_wp2
      go_roundw
      case rel => exact ⟨k + 1, by omega, by go_num, hS ▸ h3, b2'.trans b3⟩
      case measure => simp [RowKit.intOf]; omega
    · go_wp2_with (go_at_call 75; refine (Tryd.Builder_String_any w.heap.size w.heap.size (spacedL word.data.toList (xs.take k)) _ (Or.inr hB) hnx.size).mono ?_)
      rintro e W2 ⟨rfl, b2⟩
      go_wp2
      go_ret
      refine ⟨?_, hnx.trans b2⟩
      rw [List.take_of_length_le (by omega)]; rfl
theorem spaced_nil (word : ByteArray) (c : Nat) (w : World) (hk : Kept w) (hw : word.size ≤ 1000) :
    Calls Tryd.prog 36 #[.string word, .slice none 0 c] w fun e w' => e = .returned (.string ⟨(spacedL word.data.toList []).toArray⟩) ∧ Below w.heap.size w w' := by
  have h0 : Lib.IsBuilder 118 5 w.heap.size w.heap.size [] (w.alloc (.cells #[.pointer none, .slice none 0 0] 118)) := Lib.fresh_isBuilder 118 5 w
  have b0 : Below w.heap.size w (w.alloc (.cells #[.pointer none, .slice none 0 0] 118)) := (Below.refl _ w).alloc (Nat.le_refl _) _
  go_enter Tryd.func36, Tryd.ntmps36
  go_wp2_with (go_at_call 74; refine (Tryd.Builder_WriteString w.heap.size w.heap.size [] word _ h0 (by simp; omega) b0.size).mono ?_)
  rintro e W1 ⟨rfl, h1, b1⟩
  have h1' : BuilderAt 118 5 w.heap.size w.heap.size (.pointer (some ⟨w.heap.size, 0, none⟩)) (byteCells (spacedL word.data.toList [])) W1 := by
    rw [List.nil_append, strCells_eq] at h1
    simpa [spacedL] using h1
  have b1' := b0.trans b1
  clear h0 b0 h1 b1
  go_wp2
  go_loopw [13] (fun i wr => ∃ k : Nat, k ≤ 0 ∧ i = .int .i64 k ∧ BuilderAt 118 5 w.heap.size w.heap.size (.pointer (some ⟨w.heap.size, 0, none⟩)) (byteCells (spacedL word.data.toList [])) wr ∧ RowKit.Below w.heap.size w wr) (fun i _ => 0 - (RowKit.intOf i).toNat)
  case atStart => exact ⟨0, Nat.zero_le _, rfl, h1', b1'⟩
  case round =>
    obtain ⟨k, hkl, rfl, hB, hnx⟩ := hrel
    clear h1' b1'
    obtain rfl : k = 0 := by omega
    go_wp2_with (go_at_call 75; refine (Tryd.Builder_String_any w.heap.size w.heap.size (spacedL word.data.toList []) _ (Or.inr hB) hnx.size).mono ?_)
    rintro e W2 ⟨rfl, b2⟩
    go_wp2
    go_ret
    refine ⟨?_, hnx.trans b2⟩
    rfl
end Go.Proofs.YtjfjniebmdafeaaDoor
