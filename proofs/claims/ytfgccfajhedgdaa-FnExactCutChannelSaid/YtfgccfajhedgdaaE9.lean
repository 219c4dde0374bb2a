/- The evaluator: append; conversions; every operation that calls no function. -/
import Derived.Test.YtfgccfajhedgdaaE8
namespace Go.Ev
set_option linter.unusedSimpArgs false
set_option linter.unusedVariables false
open Go Go.RowKit
section
variable {cal : Nat → List D → Option (List D)} {l : List Ac} {v : AV} {w0 : World} {M : Nat → Nat → Prop} {ρ : Env} {g : Hp} {w w' : World} {P : Program}

/-- the old array is given up, the new one stands for it -/
theorem grown_ok {id : Nat} {p : Plc} {nil nil2 : Bool} {a c : Arr} {u' : Value} {e2 : TypeId} {l1 : List Ac}
    (S : Sit cal (.wr id .dead (.new (.arr true nil2 c) fun id' => .ret (.sl id' none))) l1 v w0 M ρ g w) (hp : ρ id = some p) (hg : g id = .arr true nil a)
    (ho : w'.ownsRow 0 e2 c.size u' c.len c.cells) (hfr : Fr (fun b _ => (Value.slice p.base p.len p.cap).ownBlock = some b) w w') (hn : nil2 = true ↔ u' = .slice none 0 0)
    (hb : ∀ b, u'.ownBlock = some b → (Value.slice p.base p.len p.cap).ownBlock = some b ∨ w.heap.size ≤ b) :
    Fin w0 M l1 g ρ w' (fun ρ' => RepV ρ' v u') := by
  have hfoot : ∀ b off, (Value.slice p.base p.len p.cap).ownBlock = some b → foot p (g id) b off := by
    intro b off h
    rw [hg]
    cases hbb : p.base with
    | none => rw [hbb] at h; simp [Value.ownBlock] at h
    | some x => rw [hbb] at h; simp [Value.ownBlock] at h; exact ⟨x, hbb, h, .inl rfl⟩
  obtain ⟨l2, rfl, hd, hS⟩ := S.wr
  have I1 := S.inv.turn (id := id) (p := p) (e := .dead) hp (by rw [hg]; rfl) hfr hfoot trivial (fun b off h => h.elim)
  have S1 := hS w' I1
  obtain ⟨id', l3, rfl, hid, hd', hS1⟩ := S1.new
  obtain ⟨x, cap, rfl⟩ : ∃ x cap, u' = .slice x c.len cap := by
    rcases ho.2 with ⟨h1, h2⟩ | ⟨b, cap, cur, h1, _⟩
    · exact ⟨none, 0, by rw [h1, h2]⟩
    · exact ⟨_, cap, h1⟩
  have hr : RepE (updρ ρ id' ⟨x, c.len, cap, c.size⟩) w' ⟨x, c.len, cap, c.size⟩ (.arr true nil2 c) := by
    refine ⟨rfl, rfl, ?_, ?_, ?_, fun _ => ⟨e2, ho⟩⟩
    · rw [hn]
      simp only [Value.slice.injEq]
      constructor
      · exact fun h => h.1
      · intro h
        refine ⟨h, ?_⟩
        subst h
        rcases ho.2 with ⟨h1, h2⟩ | ⟨b, cap', cur, h1, _⟩
        · simp only [Value.slice.injEq] at h1; exact ⟨h1.2.1, h1.2.2⟩
        · simp only [Value.slice.injEq, reduceCtorEq, false_and] at h1
    · intro hx
      simp only at hx
      subst hx
      rcases ho.2 with ⟨h1, h2⟩ | ⟨b, cap', cur, h1, _⟩
      · simp only [Value.slice.injEq] at h1; exact ⟨h1.2.2, h2⟩
      · simp only [Value.slice.injEq, reduceCtorEq, false_and] at h1
    · intro y hy
      simp only at hy
      subst hy
      rcases ho.2 with ⟨h1, h2⟩ | ⟨b, cap', cur, h1, _, _, h3, _⟩
      · simp only [Value.slice.injEq, reduceCtorEq, false_and] at h1
      · simp only [Value.slice.injEq, Option.some.injEq, true_and] at h1
        obtain ⟨rfl, rfl⟩ := h1
        exact ⟨h3, fun j u hj => ho.cells (g := b) rfl j u hj⟩
  have hnew : ∀ b off, foot ⟨x, c.len, cap, c.size⟩ (.arr true nil2 c) b off → (Value.slice p.base p.len p.cap).ownBlock = some b ∨ w.heap.size ≤ b := by
    rintro b off ⟨y, hy, rfl, _⟩
    simp only at hy
    exact hb _ (by simp [Value.ownBlock, hy])
  have I2 := I1.new2 (id := id') (p := ⟨x, c.len, cap, c.size⟩) (e := .arr true nil2 c) hid hr
    (by
      intro j q hq b off _ hf hf'
      by_cases hj : j = id
      · subst hj; rw [upd_same] at hf'; exact hf'
      · rw [upd_other _ _ hj] at hf'
        rcases hnew b off hf with h | h
        · exact S.inv.ok.sep id j p q (Ne.symm hj) hp hq (by rw [hg]; rfl) b off (hfoot b off h) hf'
        · have hnd : g j ≠ .dead := by intro h0; rw [h0] at hf'; exact hf'
          obtain ⟨q', hq', hrq⟩ := S.inv.ok.rep j hnd
          rw [hq] at hq'; cases hq'
          have := hrq.lt' b off hf'
          omega)
    (by
      intro _ b off hf
      rcases hnew b off hf with h | h
      · exact S.inv.own id p hp (by rw [hg]; rfl) b off (hfoot b off h)
      · exact .inr (Nat.le_trans S.inv.fr.size h))
  obtain ⟨rfl, rfl⟩ := (hS1 _ _ I2).ret
  refine Fin.wr (Fin.new hid (Fin.here I2 ?_))
  simp only [RepV]
  exact ⟨_, updρ_same _ _ _, rfl⟩
theorem strCells_bytesL (q : ByteArray) : Lib.strCells q = (bytesL q).map (Value.int .u8 ·) := by
  simp [Lib.strCells, bytesL]
theorem appendP_ok {t t2 ty : TypeId} {s x : AV} {sv xv : Value} (S : Sit cal (appendP P t t2 s x) l v w0 M ρ g w) (hs : RepV ρ s sv) (hx : RepV ρ x xv) :
    SemOk P (Builtin.append_ #[t, t2] ty #[sv, xv]) l v w0 M ρ g w := by
  unfold appendP at S
  obtain ⟨s', l1, g1, ρ1, S1, hs', hsub, hF⟩ := fixT_ok S hs
  clear S
  replace hx := RepV.mono hsub _ _ hx
  suffices h : SemOk P (Builtin.append_ #[t, t2] ty #[sv, xv]) l1 v w0 M ρ1 g1 w by
    obtain ⟨vv, w', h1, h2⟩ := h
    exact ⟨vv, w', h1, hF _ _ h2⟩
  unfold append1 at S1
  split at S1
  · rename_i el id hu
    have hun := under_some hu (by simp)
    simp only [RepV] at hs'
    obtain ⟨p, hp, hsv⟩ := hs'
    simp only [RepSl] at hsv
    subst hsv
    have S0 := S1.rd; clear S1; obtain ⟨l2, rfl, S1⟩ := S0
    split at S1
    · rename_i nil a hg
      have S0 := S1.chk; clear S1; obtain ⟨he, S1⟩ := S0
      obtain ⟨i, z, hi, hz, hzs, his, hby, hco⟩ := elemOk_spec he
      have hss := a.size_pos
      obtain ⟨q, hq, hr⟩ := S1.inv.ok.rep id (by rw [hg]; simp)
      rw [hp] at hq; cases hq
      rw [hg] at hr
      obtain ⟨h1, h2, h3, h4, h5, h6⟩ := hr
      obtain ⟨e', hown⟩ := h6 rfl
      rw [← h2, ← h1] at hown
      have hown' : w.ownsRow 0 e' i.size (.slice p.base p.len p.cap) a.len a.cells := by rw [his, ← h1]; exact hown
      have hnilv : (Value.slice p.base p.len p.cap = .slice none 0 0) ↔ nil = true := by
        simp only [Value.slice.injEq]
        constructor
        · intro h; exact h3.2 h.1
        · intro h; have := h3.1 h; exact ⟨this, (h4 this).2, (h4 this).1⟩
      unfold append2 at S1
      split at S1
      · rename_i id2 w2
        have S0 := S1.chk; clear S1; obtain ⟨htt, S1⟩ := S0
        have htt := Nat.eq_of_beq_eq_true htt
        subst htt
        have S0 := S1.rd; clear S1; obtain ⟨l3, rfl, S1⟩ := S0
        split at S1
        · rename_i own2 nil2 b hg2
          split at S1
          · rename_i c hc
            have S0 := S1.chk; clear S1; obtain ⟨hle, S1⟩ := S0
            have hle := of_decide_eq_true hle
            have S0 := S1.chk; clear S1; obtain ⟨hne, S1⟩ := S0
            obtain ⟨sb, hsub2⟩ : ∃ sb, (match w2 with | none => b | some (o, n) => b.sub o n) = sb := ⟨_, rfl⟩
            have hc' : a.app sb = some c := by rw [← hsub2, ← hc]; cases w2 <;> rfl
            obtain ⟨c1, c2, c3, c4⟩ := Arr.app_spec hc'
            obtain ⟨q2, hq2, hr2⟩ := S1.inv.ok.rep id2 (by rw [hg2]; simp)
            rw [hg2] at hr2
            simp only [RepV] at hx
            obtain ⟨p2, hp2, hxs⟩ := hx
            rw [hp2] at hq2; cases hq2
            obtain ⟨y, cp, rfl, hlc, hoff, hbase⟩ := lenW_ok hr2 hxs
            obtain ⟨k1, k2, k3, k4, k5, k6⟩ := hr2
            have hsb : sb.cells = (b.cells.drop (offW w2 * b.size)).take (lenW w2 b * b.size) ∧ sb.len = lenW w2 b ∧ sb.size = b.size := by
              subst hsub2
              cases w2 with
              | none => exact ⟨by simp only [offW, lenW, Nat.zero_mul, List.drop_zero]; rw [List.take_of_length_le]; rw [b.cells_length]; exact Nat.le_refl _, rfl, rfl⟩
              | some on =>
                obtain ⟨o, n⟩ := on
                simp only [offW, lenW] at hoff ⊢
                exact ⟨b.sub_cells o n, b.sub_len o n (by omega), b.sub_size o n⟩
            obtain ⟨sb1, sb2, sb3⟩ := hsb
            have hnews : ∀ w1, w1 = w ∨ w1 = w.drew → (Builtin.firstCells i.size sb.len (.slice y (lenW w2 b) cp)).run P w1 = .ok sb.cells.toArray w1 := by
              intro w1 hw1
              by_cases h0 : lenW w2 b = 0
              · have : sb.cells = [] := List.eq_nil_of_length_eq_zero (by rw [sb.cells_length, sb2, h0]; simp)
                rw [this, sb2, h0]
                cases y with
                | none => exact run_firstCells_none _ _ _ _ _
                | some yy => exact run_firstCells_some (P := P) w1 i.size 0 yy 0 cp [] (by simp) (by simp)
              · obtain ⟨bb, hbb, rfl⟩ := hbase h0
                have hcl := (k5 bb hbb).2
                refine run_firstCells_some (P := P) w1 i.size sb.len _ _ _ sb.cells (by rw [sb.cells_length, his, c4]) ?_
                intro j u hj
                have hw1c : ∀ ad, w1.cell? ad = w.cell? ad := by rcases hw1 with rfl | rfl <;> simp
                rw [hw1c, addr_add_add]
                rw [sb1, List.getElem?_take] at hj
                split at hj
                · rw [List.getElem?_drop, k2] at hj
                  exact hcl _ u hj
                · cases hj
            obtain ⟨u', w', e2, hrun, ho, hfr, hn, hbk⟩ := append_any (P := P) (ty := ty) hun hun (by simp) hi hz hzs (by omega) hby (u := .slice p.base p.len p.cap) (x := .slice y (lenW w2 b) cp) (n := a.len) (m := sb.len) (xs := a.cells) (news := sb.cells)
              (by simp [Builtin.lenOf, sb2]) hnews (by rw [sb.cells_length, his, c4]) sb.cells_one hown' (by rw [← c2]; exact hle)
            refine ⟨u', w', hrun, (grown_ok (nil := nil) (a := a) S1 hp hg (e2 := e2) (by rw [c1, c2, c3, ← his]; exact ho) hfr ?_ hbk).rd.rd⟩
            rw [hn, hnilv, Bool.and_eq_true, decide_eq_true_eq, c2]
            constructor
            · intro h; exact ⟨h.1, by omega⟩
            · intro h
              refine ⟨h.1, ?_⟩
              have : p.len = 0 := (h4 (h3.1 h.1)).2
              omega
          · exact S1.fail
        · exact S1.fail
      · rename_i q
        split at S1
        · rename_i lz hu2
          have hun2 := under_some hu2 (by simp)
          have S0 := S1.chk; clear S1; obtain ⟨hle, S1⟩ := S0
          have hle := of_decide_eq_true hle
          simp only [RepV] at hx
          subst hx
          have hs1 : i.size = 1 := his
          have hbl : (bytesL q).length = q.size := by simp only [bytesL, List.length_map, Array.length_toList]; rfl
          obtain ⟨u', w', e2, hrun, ho, hfr, hn, hbk⟩ := append_any (P := P) (ty := ty) hun hun2 (by simp) hi hz hzs (by omega) hby (u := .slice p.base p.len p.cap) (x := .string q) (n := lz.length) (m := q.size) (xs := (Arr.ints .u8 lz).cells) (news := Lib.strCells q)
            (by simp [Builtin.lenOf]) (fun w1 _ => Lib.run_firstCells_string (P := P) w1 i.size q) (by rw [Lib.strCells_length, hs1, Nat.mul_one]) (Lib.strCells_oneCell q) hown' hle
          have hcells : (Arr.ints .u8 (lz ++ bytesL q)).cells = (Arr.ints .u8 lz).cells ++ Lib.strCells q := by rw [strCells_bytesL]; simp [Arr.cells]
          have hlen : (Arr.ints .u8 (lz ++ bytesL q)).len = lz.length + q.size := by simp [Arr.len, hbl]
          refine ⟨u', w', hrun, (grown_ok (nil := nil) (a := .ints .u8 lz) S1 hp hg (e2 := e2) (by rw [hcells, hlen]; rw [his] at ho; exact ho) hfr ?_ hbk).rd⟩
          rw [hn, hnilv, Bool.and_eq_true, decide_eq_true_eq]
        · exact S1.fail
      · have S0 := S1.chk; clear S1; obtain ⟨htt, S1⟩ := S0
        have htt := Nat.eq_of_beq_eq_true htt
        subst htt
        simp only [RepV] at hx
        subst hx
        have hrun : (Builtin.append_ #[t, t] ty #[.slice p.base p.len p.cap, .slice none 0 0]).run P w = .ok (.slice p.base p.len p.cap) w := by
          rcases hown'.2 with ⟨hv, _⟩ | ⟨b, cap, cur, hv, _, _, hnc, _⟩
          · rw [hv]; simp [Builtin.append_, run_underlying hun, sizeOf, typeInfo, hi, Builtin.lenOf, Builtin.firstCells]
          · rw [hv]; simp [Builtin.append_, run_underlying hun, sizeOf, typeInfo, hi, Builtin.lenOf, Builtin.firstCells, hnc, storeCells]
        exact ⟨_, w, hrun, (ret_ok S1 (by simp only [RepV]; exact ⟨p, hp, rfl⟩)).rd⟩
      · exact S1.fail
    · exact S1.fail
  · exact S1.fail
end
end Go.Ev
