/- States in the middle of a change: what splitting and merging keep; plain facts. -/
import Derived.Test.YtfgccfajhedgdaaPX2
import Derived.Test.YtfgccfajhedgdaaPT2
namespace Go.Proofs.Ytfgccfajhedgdaa
open Go.Ev
set_option linter.unusedVariables false
set_option linter.unusedSimpArgs false
abbrev S3 := List Cell × List Int × List Int
structure StU (r : Int) (s : S3) (b : List Int) : Prop where
  mesh : meshGo r 0 s.1 = true
  ml : s.2.1.length = s.1.length
  tl : s.2.2.length = s.1.length
  bl : (b.length : Int) = r
  mt : massOk s.2.1 s.2.2 = true
  bed : bedOk b = true
  sum : isum s.2.1 ≤ 10000000
theorem StF.toU {r : Int} {l : List Cell} {m t b : List Int} (F : StF r l m t b) : StU r (l, m, t) b := ⟨F.mesh, F.ml, F.tl, F.bl, F.mt, F.bed, F.sum⟩
theorem StU.toF {r : Int} {s : S3} {b : List Int} (U : StU r s b) (h : unb s.1 < 0) : StF r s.1 s.2.1 s.2.2 b := ⟨U.mesh, h, U.ml, U.tl, U.bl, U.mt, U.bed, U.sum⟩
theorem StU.len {r : Int} {s : S3} {b : List Int} (U : StU r s b) : 1 ≤ s.1.length ∧ s.1.length ≤ 128 := mesh_len U.mesh
theorem StU.rr {r : Int} {s : S3} {b : List Int} (U : StU r s b) : 1 ≤ r ∧ r ≤ 8 := ⟨(mesh_facts _ _ _ U.mesh).1, (mesh_facts _ _ _ U.mesh).2.1⟩
theorem StU.at {r : Int} {s : S3} {b : List Int} (U : StU r s b) (i : Nat) : 0 ≤ s.2.1.getD i 0 ∧ s.2.1.getD i 0 ≤ 10000000 ∧ 0 ≤ s.2.2.getD i 0 ∧ s.2.2.getD i 0 ≤ 1000 * s.2.1.getD i 0 := massOk_at _ _ (by rw [U.ml, U.tl]) U.mt i
theorem StU.id {r : Int} {s : S3} {b : List Int} (U : StU r s b) {i : Nat} (h : i < s.1.length) : idOk (s.1.getD i zz3).1 (s.1.getD i zz3).2.1 (s.1.getD i zz3).2.2 = true := ((mesh_facts _ _ _ U.mesh).2.2.2.1 _ h).2.2
theorem mA_take : ∀ (n : Nat) (m t : List Int), massOk m t = true → massOk (m.take n) (t.take n) = true
  | 0, m, t, h => by simp [massOk]
  | n + 1, [], t, h => by simp [massOk]
  | n + 1, x :: m, [], h => by simp [massOk]
  | n + 1, x :: m, y :: t, h => by
    simp only [List.take_succ_cons, massOk, Bool.and_eq_true] at h ⊢
    exact ⟨h.1, h.2.1, mA_take n m t h.2.2⟩
theorem mA_drop : ∀ (n : Nat) (m t : List Int), massOk m t = true → massOk (m.drop n) (t.drop n) = true
  | 0, m, t, h => by simpa using h
  | n + 1, [], t, h => by simp [massOk]
  | n + 1, x :: m, [], h => by cases h' : List.drop n m <;> simp [massOk, h']
  | n + 1, x :: m, y :: t, h => by
    simp only [List.drop_succ_cons, massOk, Bool.and_eq_true] at h ⊢
    exact mA_drop n m t h.2.2
theorem mA_app : ∀ (m t m' t' : List Int), m.length = t.length → massOk m t = true → massOk m' t' = true → massOk (m ++ m') (t ++ t') = true
  | [], [], m', t', _, _, h => h
  | [], _ :: _, _, _, h, _, _ => by simp at h
  | _ :: _, [], _, _, h, _, _ => by simp at h
  | x :: m, y :: t, m', t', hl, h, h' => by
    simp only [List.cons_append, massOk, Bool.and_eq_true] at h ⊢
    exact ⟨h.1, h.2.1, mA_app m t m' t' (by simpa using hl) h.2.2 h'⟩
theorem mA_cons {x y : Int} {m t : List Int} (h1 : 0 ≤ x ∧ x ≤ 10000000) (h2 : 0 ≤ y ∧ y ≤ 1000 * x) (h : massOk m t = true) : massOk (x :: m) (y :: t) = true := by
  simp only [massOk, Bool.and_eq_true, inR_iff]; exact ⟨h1, h2, h⟩
theorem isum_at {m : List Int} {i : Nat} (h : i < m.length) : isum (m.take i) + m.getD i 0 + isum (m.drop (i + 1)) = isum m := by
  have e := cut_at h 0
  have := congrArg isum e
  rw [isum_append, isum] at this
  omega
/-- splitting -/
abbrev hA (x : Int) : Int := x - x / 2
abbrev hB (x : Int) : Int := x / 2
theorem hAB {x : Int} (h : 0 ≤ x) : hA x + hB x = x ∧ 0 ≤ hB x ∧ hB x ≤ x ∧ 0 ≤ hA x ∧ hA x ≤ x := by unfold hA hB; omega
def rfM (m : List Int) (i : Nat) : List Int := m.take i ++ hA (m.getD i 0) :: hB (m.getD i 0) :: m.drop (i + 1)
abbrev shr (t m : Int) : Int := shareOut t (hA m) m
def rfT (t m : List Int) (i : Nat) : List Int := t.take i ++ shr (t.getD i 0) (m.getD i 0) :: (t.getD i 0 - shr (t.getD i 0) (m.getD i 0)) :: t.drop (i + 1)
def rfS (s : S3) (i : Nat) : S3 := (splitL s.1 i, rfM s.2.1 i, rfT s.2.2 s.2.1 i)
theorem shr_le {t m : Int} (hm : 0 ≤ m ∧ m ≤ 10000000) (ht : 0 ≤ t ∧ t ≤ 1000 * m) : (0 ≤ shr t m ∧ shr t m ≤ 1000 * hA m) ∧ 0 ≤ t - shr t m ∧ t - shr t m ≤ 1000 * hB m := by
  have q := hAB hm.1
  have p1 := (share_le t (hA m) m).1
  have p2 := share_le2 (t := t) (p := hA m) (m := m) ht.1 (by omega) ht.2
  by_cases h0 : m = 0
  · subst h0
    have : t = 0 := by omega
    subst this
    have p3 : shr 0 0 = 0 := by unfold shr; omega
    rw [p3] at *
    exact ⟨⟨by omega, by omega⟩, by omega, by omega⟩
  · have e : shr t m = (t * hA m) / m := by
      unfold shr shareOut
      rw [show inR m 1 10000000 = true from inR_iff.2 (by omega), show inR (hA m) 0 m = true from inR_iff.2 (by omega), show inR t 0 (1000 * m) = true from inR_iff.2 ht]
      simp only [Bool.and_self, condT]
      exact Int.tdiv_eq_ediv_of_nonneg (Int.mul_nonneg ht.1 (by omega))
    refine ⟨⟨p1, p2⟩, ?_, ?_⟩
    · have : (t * hA m) / m ≤ t := by
        apply Int.ediv_le_of_le_mul (by omega)
        exact Int.mul_le_mul_of_nonneg_left (by omega) ht.1
      omega
    · have hx : t * hB m ≤ 1000 * m * hB m := Int.mul_le_mul_of_nonneg_right ht.2 (by omega)
      have hs : t * hA m + t * hB m = t * m := by rw [← Int.mul_add, q.1]
      have h2 : (t - 1000 * hB m) * m ≤ t * hA m := by
        rw [Int.sub_mul, Int.mul_right_comm 1000 (hB m) m]
        rw [show 1000 * m * hB m = 1000 * m * hB m from rfl] at hx
        omega
      have : t - 1000 * hB m ≤ (t * hA m) / m := (Int.le_ediv_iff_mul_le (by omega)).2 h2
      omega
theorem rfM_len {m : List Int} {i : Nat} (h : i < m.length) : (rfM m i).length = m.length + 1 := by
  simp only [rfM, List.length_append, List.length_take, List.length_cons, List.length_drop]; omega
theorem rfT_len {t m : List Int} {i : Nat} (h : i < t.length) : (rfT t m i).length = t.length + 1 := by
  simp only [rfT, List.length_append, List.length_take, List.length_cons, List.length_drop]; omega
theorem rfM_sum {m : List Int} {i : Nat} (h : i < m.length) (h0 : 0 ≤ m.getD i 0) : isum (rfM m i) = isum m := by
  have := isum_at h; have := hAB h0
  simp only [rfM, isum_append, isum]
  omega
theorem rfT_sum {t m : List Int} {i : Nat} (h : i < t.length) : isum (rfT t m i) = isum t := by
  have := isum_at h
  simp only [rfT, isum_append, isum]
  omega
theorem rf_U {r : Int} {s : S3} {b : List Int} (U : StU r s b) {i : Nat} (hi : i < s.1.length) (hl : levAt s.1 i < 4) : StU r (rfS s i) b := by
  have a := U.at i; have ml := U.ml; have tl := U.tl; have q := hAB a.1
  have sh := shr_le ⟨a.1, a.2.1⟩ ⟨a.2.2.1, a.2.2.2⟩
  refine ⟨split_mesh U.mesh hi hl, ?_, ?_, U.bl, ?_, U.bed, ?_⟩
  · show (rfM s.2.1 i).length = (splitL s.1 i).length
    rw [rfM_len (by omega), splitL_len hi]; omega
  · show (rfT s.2.2 s.2.1 i).length = (splitL s.1 i).length
    rw [rfT_len (by omega), splitL_len hi]; omega
  · exact mA_app _ _ _ _ (by rw [List.length_take, List.length_take]; omega) (mA_take i _ _ U.mt) (mA_cons (by omega) sh.1 (mA_cons (by omega) sh.2 (mA_drop _ _ _ U.mt)))
  · show isum (rfM s.2.1 i) ≤ _
    rw [rfM_sum (by omega) a.1]; exact U.sum
/-- merging -/
def cmM (m : List Int) (i : Nat) : List Int := m.take i ++ (m.getD i 0 + m.getD (i + 1) 0) :: m.drop (i + 2)
def cmS (s : S3) (i : Nat) : S3 := (mergeL s.1 i, cmM s.2.1 i, cmM s.2.2 i)
theorem cmM_len {m : List Int} {i : Nat} (h : i + 1 < m.length) : (cmM m i).length + 1 = m.length := by
  simp only [cmM, List.length_append, List.length_take, List.length_cons, List.length_drop]; omega
theorem isum_at2 {m : List Int} {i : Nat} (h : i + 1 < m.length) : isum (m.take i) + m.getD i 0 + m.getD (i + 1) 0 + isum (m.drop (i + 2)) = isum m := by
  have e := isum_at (show i < m.length by omega)
  rw [drop_at h 0, isum, show i + 1 + 1 = i + 2 from rfl] at e
  omega
theorem cmM_sum {m : List Int} {i : Nat} (h : i + 1 < m.length) : isum (cmM m i) = isum m := by
  have := isum_at2 h
  simp only [cmM, isum_append, isum]
  omega
theorem isum_nn {m : List Int} (h : ∀ x ∈ m, 0 ≤ x) : 0 ≤ isum m := by
  induction m with
  | nil => simp [isum]
  | cons x m ih => have := h x (by simp); have := ih fun y hy => h y (by simp [hy]); simp only [isum]; omega
theorem cm_U {r : Int} {s : S3} {b : List Int} (U : StU r s b) {i : Nat} (hi : i + 1 < s.1.length) (hs : sib (s.1.getD i zz3) (s.1.getD (i + 1) zz3) = true) : StU r (cmS s i) b := by
  have a := U.at i; have a' := U.at (i + 1); have ml := U.ml; have tl := U.tl
  have mem := massOk_mem _ _ (by rw [ml, tl]) U.mt
  have s1 := isum_nn (m := s.2.1.take i) fun x hx => (mem.1 x (List.mem_of_mem_take hx)).1
  have s2 := isum_nn (m := s.2.1.drop (i + 2)) fun x hx => (mem.1 x (List.mem_of_mem_drop hx)).1
  have s3 := isum_at2 (m := s.2.1) (i := i) (by omega)
  have s4 := U.sum
  refine ⟨merge_mesh U.mesh hi hs, ?_, ?_, U.bl, ?_, U.bed, ?_⟩
  · show (cmM s.2.1 i).length = (mergeL s.1 i).length
    have h1 := cmM_len (m := s.2.1) (i := i) (by omega); have h2 := mergeL_len hi; omega
  · show (cmM s.2.2 i).length = (mergeL s.1 i).length
    have h1 := cmM_len (m := s.2.2) (i := i) (by omega); have h2 := mergeL_len hi; omega
  · exact mA_app _ _ _ _ (by rw [List.length_take, List.length_take]; omega) (mA_take i _ _ U.mt) (mA_cons (by omega) (by omega) (mA_drop _ _ _ U.mt))
  · show isum (cmM s.2.1 i) ≤ _
    rw [cmM_sum (by omega)]; exact U.sum
/-- balancing -/
def lvS : Nat → S3 → S3
  | 0, s => s
  | n + 1, s => if unb s.1 < 0 then s else lvS n (rfS s (coarse s.1 (unb s.1).toNat))
theorem lvS_U {r : Int} {b : List Int} : ∀ (n : Nat) (s : S3), StU r s b → 129 ≤ n + s.1.length → StU r (lvS n s) b ∧ unb (lvS n s).1 < 0
  | 0, s, U, hn => by have := U.len; omega
  | n + 1, s, U, hn => by
    unfold lvS
    by_cases g : unb s.1 < 0
    · rw [if_pos g]; exact ⟨U, g⟩
    · rw [if_neg g]
      obtain ⟨j, e, h1, h2⟩ := unb_at (by omega : 0 ≤ unb s.1)
      have c := coarse_ok U.mesh h1 h2
      rw [e, Int.toNat_natCast]
      exact lvS_U n _ (rf_U U c.1 c.2) (by show 129 ≤ n + (splitL s.1 _).length; rw [splitL_len c.1]; omega)
/-- the wished splits, from the last leaf to the first -/
def spS (w : List Int) : Nat → S3 → S3
  | 0, s => s
  | n + 1, s => spS w n (if w.getD n 0 = 1 then rfS s n else s)
/-- may two leaves be merged -/
def mayC (l : List Cell) (i : Nat) : Bool := sib (l.getD i zz3) (l.getD (i + 1) zz3) && ((decide (i = 0) || decide (levAt l (i - 1) ≤ levAt l i)) && (decide (l.length ≤ i + 2) || decide (levAt l (i + 2) ≤ levAt l i)))
def mgS (P : Cell → Bool) : Nat → Nat → S3 → S3
  | 0, i, s => s
  | n + 1, i, s => if i + 1 < s.1.length then mgS P n (i + 1) (if (P (s.1.getD i zz3) && (P (s.1.getD (i + 1) zz3) && mayC s.1 i)) = true then cmS s i else s) else s
theorem splitL_lo {l : List Cell} {i j : Nat} (hi : i < l.length) (h : j < i) : (splitL l i).getD j zz3 = l.getD j zz3 := by
  unfold splitL
  simp only [List.getD_eq_getElem?_getD]
  rw [List.getElem?_append_left (by rw [List.length_take]; omega), List.getElem?_take, if_pos h]
theorem spS_U {r : Int} {b : List Int} (w : List Int) (l0 : List Cell) (hw : ∀ j, w.getD j 0 = 1 → levAt l0 j < 4) : ∀ (n : Nat) (s : S3), StU r s b → n ≤ s.1.length → (∀ j, j < n → s.1.getD j zz3 = l0.getD j zz3) → StU r (spS w n s) b
  | 0, s, U, hn, he => U
  | n + 1, s, U, hn, he => by
    unfold spS
    by_cases g : w.getD n 0 = 1
    · rw [if_pos g]
      have hl : levAt s.1 n < 4 := by have := hw n g; unfold levAt at *; rw [he n (by omega)]; exact this
      exact spS_U w l0 hw n _ (rf_U U (by omega) hl) (by show n ≤ (splitL s.1 n).length; rw [splitL_len (by omega)]; omega) fun j hj => by
        show (splitL s.1 n).getD j zz3 = _
        rw [splitL_lo (by omega) hj]; exact he j (by omega)
    · rw [if_neg g]
      exact spS_U w l0 hw n s U (by omega) fun j hj => he j (by omega)
theorem mgS_U {r : Int} {b : List Int} (P : Cell → Bool) : ∀ (n i : Nat) (s : S3), StU r s b → StU r (mgS P n i s) b
  | 0, i, s, U => U
  | n + 1, i, s, U => by
    unfold mgS
    by_cases g : i + 1 < s.1.length
    · rw [if_pos g]
      by_cases h : (P (s.1.getD i zz3) && (P (s.1.getD (i + 1) zz3) && mayC s.1 i)) = true
      · rw [if_pos h]
        simp only [Bool.and_eq_true, mayC] at h
        exact mgS_U P n (i + 1) _ (cm_U U g h.2.2.1)
      · rw [if_neg h]; exact mgS_U P n (i + 1) s U
    · rw [if_neg g]; exact U
/-- merging keeps a mesh balanced -/
theorem merge_unb {l : List Cell} {i : Nat} (hi : i + 1 < l.length) (hu : unb l < 0) (hm : mayC l i = true) (h1 : 1 ≤ levAt l i) : unb (mergeL l i) < 0 := by
  have ml := mergeL_len hi
  simp only [mayC, Bool.and_eq_true, Bool.or_eq_true, decide_eq_true_eq, sib] at hm
  obtain ⟨⟨_, _, _, hlev, _⟩, hlo, hhi⟩ := hm
  rw [unb_iff] at hu ⊢
  have lv : ∀ j, levAt (mergeL l i) j = if j < i then levAt l j else if j = i then levAt l i - 1 else levAt l (j + 1) := fun j => by
    unfold mergeL levAt
    simp only [List.getD_eq_getElem?_getD]
    by_cases g : j < i
    · rw [if_pos g, List.getElem?_append_left (by rw [List.length_take]; omega), List.getElem?_take, if_pos g]
    · rw [if_neg g, List.getElem?_append_right (by rw [List.length_take]; omega), List.length_take, Nat.min_eq_left (by omega)]
      by_cases g2 : j = i
      · subst g2; rw [if_pos rfl, Nat.sub_self]; simp [par]
      · rw [if_neg g2, show j - i = (j - i - 1) + 1 by omega, List.getElem?_cons_succ, List.getElem?_drop]
        congr 4; omega
  intro j hj
  have hj' : j + 1 < l.length - 1 := by omega
  rw [lv, lv]
  have hu1 := fun q (hq : q + 1 < l.length) => hu q hq
  have hle : levAt l i = levAt l (i + 1) := hlev
  by_cases g : j + 1 < i
  · rw [if_pos (by omega), if_pos g]; exact hu j (by omega)
  by_cases g1 : j + 1 = i
  · rw [if_pos (by omega), if_neg (by omega), if_pos g1]
    have := hu j (by omega)
    rw [g1] at this
    rcases hlo with h | h
    · omega
    · rw [show i - 1 = j by omega] at h; omega
  by_cases g2 : j = i
  · subst g2
    rw [if_neg (by omega), if_pos rfl, if_neg (by omega), if_neg (by omega)]
    have := hu (j + 1) (by omega)
    rcases hhi with h | h
    · omega
    · rw [show j + 1 + 1 = j + 2 by omega] at *; omega
  · rw [if_neg (by omega), if_neg (by omega), if_neg (by omega), if_neg (by omega)]; exact hu (j + 1) (by omega)
theorem sib_lev {a b : Cell} (h : sib a b = true) : 1 ≤ a.2.1 := by
  simp only [sib, Bool.and_eq_true, decide_eq_true_eq] at h
  obtain ⟨h1, h2, h3, h4, h5, h6⟩ := h
  rw [← h3, ← h4, h6] at h2
  exact (par_ok h1 h2 h5).1
theorem mgS_unb (P : Cell → Bool) : ∀ (n i : Nat) (s : S3), unb s.1 < 0 → unb (mgS P n i s).1 < 0
  | 0, i, s, U => U
  | n + 1, i, s, U => by
    unfold mgS
    by_cases g : i + 1 < s.1.length
    · rw [if_pos g]
      by_cases h : (P (s.1.getD i zz3) && (P (s.1.getD (i + 1) zz3) && mayC s.1 i)) = true
      · rw [if_pos h]
        simp only [Bool.and_eq_true] at h
        have h2 := h.2.2
        simp only [mayC, Bool.and_eq_true] at h2
        exact mgS_unb P n (i + 1) _ (merge_unb g U h.2.2 (sib_lev h2.1))
      · rw [if_neg h]; exact mgS_unb P n (i + 1) s U
    · rw [if_neg g]; exact U
end Go.Proofs.Ytfgccfajhedgdaa
