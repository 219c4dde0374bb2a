/- The evaluator: make, append, strings and bytes. -/
import Derived.Test.YtfgccfajhedgdaaE7
namespace Go.Ev
set_option linter.unusedSimpArgs false
set_option linter.unusedVariables false
open Go Go.RowKit
section
variable {cal : Nat → List D → Option (List D)} {l : List Ac} {v : AV} {w0 : World} {M : Nat → Nat → Prop} {ρ : Env} {g : Hp} {w w' : World} {P : Program}

theorem constAV_int {u : Value} {k : IntKind} {n : Int} (h : constAV u = .int k n) : u = .int k n := by
  unfold constAV at h; split at h <;> simp_all
theorem constAV_bool {u : Value} {b : Bool} (h : constAV u = .bool b) : u = .bool b := by
  unfold constAV at h; split at h <;> simp_all
theorem constAV_str {u : Value} {s : ByteArray} (h : constAV u = .str s) : u = .string s := by
  unfold constAV at h; split at h <;> simp_all
theorem flatMap_replicate {α β : Type} (x : α) (f : α → List β) (c : β) (m : Nat) (h : f x = List.replicate m c) : ∀ n, (List.replicate n x).flatMap f = List.replicate (n * m) c
  | 0 => by simp
  | n + 1 => by rw [List.replicate_succ, List.flatMap_cons, h, flatMap_replicate x f c m h n, List.replicate_append_replicate, Nat.add_mul]; congr 1; omega
theorem zeros_ok {el : TypeId} {e : ETy} {n : Nat} {a : Arr} (h : e.zeros n = some a) (hz : zeroOk P el e = true) :
    a.len = n ∧ ∃ z i c, P.info? el = some i ∧ i.zero = some z ∧ (∀ x ∈ z.cells.toList, x = c) ∧ a.cells = List.replicate (n * a.size) c := by
  unfold zeroOk at hz
  split at hz
  all_goals (try contradiction)
  · rename_i k m k' hc
    obtain ⟨i, zv, hi, hzv, hr⟩ := zeroCells_ok (ρ := fun _ => none) hc
    simp only [Bool.and_eq_true, beq_iff_eq] at hz
    obtain ⟨rfl, rfl⟩ := hz
    simp only [ETy.zeros, Option.some.injEq] at h; subst h
    simp only [RepVs, RepV] at hr
    obtain ⟨_, _, he, rfl, rfl⟩ := hr
    exact ⟨by simp [Arr.len], zv, i, .int k 0, hi, hzv, by rw [he]; simp, by simp [Arr.cells, Arr.size]⟩
  · rename_i b hc
    obtain ⟨i, zv, hi, hzv, hr⟩ := zeroCells_ok (ρ := fun _ => none) hc
    simp only [Bool.not_eq_true'] at hz
    subst hz
    simp only [ETy.zeros, Option.some.injEq] at h; subst h
    simp only [RepVs, RepV] at hr
    obtain ⟨_, _, he, rfl, rfl⟩ := hr
    exact ⟨by simp [Arr.len], zv, i, .bool false, hi, hzv, by rw [he]; simp, by simp [Arr.cells, Arr.size]⟩
  · rename_i s hc
    obtain ⟨i, zv, hi, hzv, hr⟩ := zeroCells_ok (ρ := fun _ => none) hc
    have hz := of_decide_eq_true hz
    subst hz
    simp only [ETy.zeros, Option.some.injEq] at h; subst h
    simp only [RepVs, RepV] at hr
    obtain ⟨_, _, he, rfl, rfl⟩ := hr
    exact ⟨by simp [Arr.len], zv, i, .string .empty, hi, hzv, by rw [he]; simp, by simp [Arr.cells, Arr.size]⟩
  · rename_i x y z hc
    obtain ⟨i, zv, hi, hzv, hr⟩ := zeroCells_ok (ρ := fun _ => none) hc
    simp only [Bool.and_eq_true, beq_iff_eq] at hz
    obtain ⟨⟨rfl, rfl⟩, rfl⟩ := hz
    simp only [ETy.zeros, Option.some.injEq] at h; subst h
    simp only [RepVs, RepV] at hr
    obtain ⟨_, _, he, rfl, _, _, rfl, rfl, _, _, rfl, rfl, rfl⟩ := hr
    refine ⟨by simp [Arr.len], zv, i, .int .i64 0, hi, hzv, by rw [he]; simp, ?_⟩
    simp only [Arr.cells, Arr.size]
    exact flatMap_replicate (0, 0, 0) (fun x : Int × Int × Int => [Value.int .i64 x.1, .int .i64 x.2.1, .int .i64 x.2.2]) (.int .i64 0) 3 rfl n
  · rename_i x y z q hc
    obtain ⟨i, zv, hi, hzv, hr⟩ := zeroCells_ok (ρ := fun _ => none) hc
    simp only [Bool.and_eq_true, beq_iff_eq] at hz
    obtain ⟨⟨⟨rfl, rfl⟩, rfl⟩, rfl⟩ := hz
    simp only [ETy.zeros, Option.some.injEq] at h; subst h
    simp only [RepVs, RepV] at hr
    obtain ⟨_, _, he, rfl, _, _, rfl, rfl, _, _, rfl, rfl, _, _, rfl, rfl, rfl⟩ := hr
    refine ⟨by simp [Arr.len], zv, i, .int .i64 0, hi, hzv, by rw [he]; simp, ?_⟩
    simp only [Arr.cells, Arr.size]
    exact flatMap_replicate (0, 0, 0, 0) (fun x : Int × Int × Int × Int => [Value.int .i64 x.1, .int .i64 x.2.1, .int .i64 x.2.2.1, .int .i64 x.2.2.2]) (.int .i64 0) 4 rfl n
theorem made_const {z : Array Value} {c : Value} {n m : Nat} (h : ∀ x ∈ z.toList, x = c) (hz : 0 < z.size) (hm : m ≤ n) : (madeCells z n).toList.take m = List.replicate m c := by
  apply List.ext_getElem?
  intro j
  rw [List.getElem?_take, List.getElem?_replicate]
  by_cases hj : j < m
  · rw [if_pos hj, if_pos hj]
    have hlt : j % z.size < z.size := Nat.mod_lt _ hz
    simp only [madeCells, Array.getElem?_toList, Array.getElem?_map, Array.getElem?_range]
    rw [if_pos (by omega)]
    simp only [Option.map_some, Option.some.injEq]
    rw [getElem!_pos z _ hlt]
    exact h _ (by simp [Array.mem_toList_iff])
  · rw [if_neg hj, if_neg hj]
theorem makeSliceP_ok {t : TypeId} {x y : AV} {xv yv : Value} (S : Sit cal (makeSliceP P t x y) l v w0 M ρ g w) (hx : RepV ρ x xv) (hy : RepV ρ y yv) : SemOk P (Instr.makeSlice t xv yv) l v w0 M ρ g w := by
  unfold makeSliceP at S
  split at S
  · rename_i el kl n kc c hu
    have hun := under_some hu (by simp)
    simp only [RepV] at hx hy
    subst hx hy
    have S0 := S.chk; clear S; obtain ⟨hc, S⟩ := S0
    simp only [Bool.and_eq_true, decide_eq_true_eq] at hc
    obtain ⟨⟨h0, h1⟩, h2⟩ := hc
    split at S
    · rename_i a ha
      have S0 := S.chk; clear S; obtain ⟨he, S⟩ := S0
      simp only [Bool.and_eq_true] at he
      obtain ⟨he, hz⟩ := he
      obtain ⟨i, z, hi, hzz, hzs, his, hby, hco⟩ := elemOk_spec he
      obtain ⟨hal, z', i', cc, hi', hz', hcc, hcells⟩ := zeros_ok ha hz
      rw [hi] at hi'; cases hi'
      rw [hzz] at hz'; cases hz'
      have hss := a.size_pos
      have hb : (i.bytes : Int) * c ≤ 281474976710656 := by
        have e1 : (i.bytes : Int) * c ≤ 64 * c := Int.mul_le_mul_of_nonneg_right (by omega) (by omega)
        simp only [bigLen] at h2; omega
      have hr := run_make (P := P) w t el i z hun hi hzz kl kc n c h0 h1 hb (by simp only [bigLen] at h2; omega)
      have hnew : (w.alloc (.cells (madeCells z.cells (c.toNat * i.size)) el)).ownsRow 0 el a.size (.slice (some ⟨w.heap.size, 0, none⟩) a.len c.toNat) a.len a.cells := by
        refine ⟨a.cells_length, .inr ⟨w.heap.size, c.toNat, _, rfl, Nat.zero_le _, heap_alloc_new w _, by omega, ?_, ?_, ?_⟩⟩
        · simp only [maxLen]; simp only [bigLen] at h2; omega
        · rw [size_madeCells, his]
        · rw [hcells, hal]
          exact made_const hcc (by omega) (by rw [his]; exact Nat.mul_le_mul_right _ (by omega))
      have := newArr_ok (nil := false) S (fr_alloc w _) hnew (by simp) (fun y hy => by cases hy; exact Nat.le_refl _)
      rw [hal] at this
      exact ⟨_, _, hr, this⟩
    · exact S.fail
  · exact S.fail

/-! append -/
theorem Inv.new2 {id : Nat} {p : Plc} {e : Ent} (I : Inv w0 M ρ g w) (hid : ρ id = none) (hr : RepE (updρ ρ id p) w p e)
    (hs : ∀ j q, ρ j = some q → ∀ b off, (e.own = true ∨ (g j).own = true) → foot p e b off → ¬ foot q (g j) b off) (hm : e.own = true → ∀ b off, foot p e b off → M b off ∨ w0.heap.size ≤ b) :
    Inv w0 M (updρ ρ id p) (upd g id e) w := by
  refine ⟨⟨?_, ?_⟩, I.fr, ?_⟩
  · intro i hi
    by_cases hii : i = id
    · subst hii; rw [upd_same] at hi ⊢; exact ⟨p, updρ_same _ _ _, hr⟩
    · rw [upd_other _ _ hii] at hi ⊢
      obtain ⟨q, hq, hrq⟩ := I.ok.rep i hi
      exact ⟨q, by rw [updρ_other _ _ hii]; exact hq, hrq.mono (sub_updρ hid)⟩
  · intro i j q r hij hq hrr ho b off hf hf'
    by_cases hii : i = id
    · subst hii
      rw [updρ_same] at hq; cases hq
      rw [upd_same] at ho hf
      have hji : j ≠ i := Ne.symm hij
      rw [updρ_other _ _ hji] at hrr
      rw [upd_other _ _ hji] at hf'
      exact hs j r hrr b off (.inl ho) hf hf'
    · rw [updρ_other _ _ hii] at hq
      rw [upd_other _ _ hii] at ho hf
      by_cases hjj : j = id
      · subst hjj
        rw [updρ_same] at hrr; cases hrr
        rw [upd_same] at hf'
        exact hs i q hq b off (.inr ho) hf' hf
      · rw [updρ_other _ _ hjj] at hrr
        rw [upd_other _ _ hjj] at hf'
        exact I.ok.sep i j q r hij hq hrr ho b off hf hf'
  · intro i q hq ho b off hf
    by_cases hii : i = id
    · subst hii
      rw [updρ_same] at hq; cases hq
      rw [upd_same] at ho hf
      exact hm ho b off hf
    · rw [updρ_other _ _ hii] at hq
      rw [upd_other _ _ hii] at ho hf
      exact I.own i q hq ho b off hf
theorem fr_row {e : TypeId} {b : Nat} {cur new : Array Value} (h : w.heap[b]? = some (.cells cur e (0, 0))) (hs : new.size = cur.size) : Fr (fun b' _ => b' = b) w (w.setRow b new) := by
  refine ⟨rfl, rfl, rfl, by simp [World.setRow], fun k hk => ?_⟩
  by_cases hkb : k = b
  · subst hkb
    exact .inl ⟨cur, new, e, (0, 0), h, setRow_heap w k cur new e (0, 0) h, hs, fun off ho => absurd rfl ho⟩
  · exact .inr (.inl (setRow_other w b k new hkb))
theorem fr_drew (w : World) : Fr (fun _ _ => False) w w.drew := ⟨rfl, rfl, rfl, Nat.le_refl _, fun _ _ => .inr (.inl rfl)⟩
theorem not_int {d2 : TypeDesc} (hd : ∀ k, d2 ≠ .int k) : (match (generalizing := false) d2 with | .int _ => true | _ => false) = false := by
  cases d2 <;> first | rfl | exact absurd rfl (hd _)
theorem append_any {t t2 ty e e' : TypeId} {d2 : TypeDesc} {i : TypeInfo} {z : Value} (ht : P.underlying t = some (.slice e)) (hu : P.underlying t2 = some d2) (hd : ∀ k, d2 ≠ .int k) (hi : P.info? e = some i) (hz : i.zero = some z)
    (hzs : z.cells.size = i.size) (hsz : 0 < i.size) (hby : i.bytes ≤ 64) {u x : Value} {n m : Nat} {xs news : List Value} (hlo : (Builtin.lenOf x).run P w = .ok m w)
    (hf : ∀ w1, w1 = w ∨ w1 = w.drew → (Builtin.firstCells i.size m x).run P w1 = .ok news.toArray w1) (hl : news.length = m * i.size) (h1 : ∀ u ∈ news, u.oneCell' = true)
    (hown : w.ownsRow 0 e' i.size u n xs) (hle : n + m ≤ bigLen) :
    ∃ u' w' e2, (Builtin.append_ #[t, t2] ty #[u, x]).run P w = .ok u' w' ∧ w'.ownsRow 0 e2 i.size u' (n + m) (xs ++ news) ∧ Fr (fun b _ => u.ownBlock = some b) w w' ∧
      (u' = .slice none 0 0 ↔ u = .slice none 0 0 ∧ m = 0) ∧ (∀ b, u'.ownBlock = some b → u.ownBlock = some b ∨ w.heap.size ≤ b) := by
  have hle' : n + m ≤ 1099511627776 := hle
  have hmatch := not_int hd
  have hlen : (xs ++ news).length = (n + m) * i.size := by rw [List.length_append, hown.1, hl, Nat.add_mul]
  have hfitB : ∀ k, k ≤ n + m → k * i.bytes ≤ 140737488355328 := by
    intro k hk
    have : k * i.bytes ≤ 1099511627776 * 64 := Nat.mul_le_mul (by omega) hby
    omega
  have hml : n + m ≤ maxLen := by simp only [maxLen]; omega
  have grown : ∀ (old : Nat), (w.drew.alloc (.cells (xs.toArray ++ news.toArray ++ Builtin.zeroCells z.cells (grownCap w (n + m) old e - (n + m))) e)).ownsRow 0 e i.size
        (.slice (some ⟨w.heap.size, 0, none⟩) (n + m) (grownCap w (n + m) old e)) (n + m) (xs ++ news) := by
    intro old
    have hge := grownCap_ge w (n + m) old e
    have hcm : grownCap w (n + m) old e ≤ maxLen := grownCap_le_maxLen w (n + m) old e hml
    refine ⟨hlen, .inr ⟨w.heap.size, _, _, rfl, Nat.zero_le _, heap_alloc_new w.drew _, hge, hcm, ?_, ?_⟩⟩
    · simp only [Array.size_append, List.size_toArray, size_zeroCells, hzs, hown.1, hl, ← Nat.add_mul]
      congr 1
      omega
    · simp only [Array.toList_append, List.append_assoc]
      rw [← List.append_assoc, ← hlen]
      exact List.take_left
  have hn0 : ¬ ((n : Int) + (m : Int) > 9223372036854775807) := by omega
  rcases hown.2 with ⟨rfl, rfl⟩ | ⟨b, cap, cur, rfl, hbg, hg, hnc, hcm, hcs, htake⟩
  · have hx : xs = [] := List.eq_nil_of_length_eq_zero (by simpa using hown.1)
    subst hx
    by_cases hm : m = 0
    · subst hm
      have hn : news = [] := List.eq_nil_of_length_eq_zero (by simpa using hl)
      subst hn
      refine ⟨.slice none 0 0, w, e, ?_, World.ownsRow_nil w 0 e i.size, Fr.refl _ w, by simp, by simp [Value.ownBlock]⟩
      have h0 := hf w (.inl rfl)
      simp [Builtin.append_, run_underlying ht, run_underlying hu, hmatch, sizeOf, typeInfo, hi, hlo, h0]
    · have h0 := hf w.drew (.inr rfl)
      have hcap : ¬ (Builtin.nextslicecap m 0 * i.bytes > 2 ^ 48) := by
        rw [nextslicecap_zero (by omega)]; have := hfitB m (by omega); omega
      have hcap' : ¬ (281474976710656 < Builtin.nextslicecap m 0 * i.bytes) := by omega
      have hm63 : ¬ (9223372036854775807 < (m : Int)) := by omega
      have hg0 := grown 0
      simp only [Nat.zero_add, List.nil_append] at hg0 ⊢
      refine ⟨_, _, e, ?_, hg0, (fr_drew w).mono (fun _ _ _ h => h.elim) |>.trans ((fr_alloc w.drew _).mono fun _ _ _ h => h.elim), by simp [hm], fun b hb => by simp [Value.ownBlock] at hb; exact .inr (by omega)⟩
      simp [Builtin.append_, run_underlying ht, run_underlying hu, hmatch, sizeOf, typeInfo, zeroValue, hi, hz, hlo, hm, hcap', hm63, Question.forced, run_firstCells_none, h0, newRow, grownCap]
  · by_cases hroom : n + m ≤ cap
    · have h0 := hf w (.inl rfl)
      have hfit : n * i.size + news.length ≤ cur.size := by rw [hl, hcs, ← Nat.add_mul]; exact Nat.mul_le_mul_right _ hroom
      have hst := run_storeCells_at P b (n * i.size) e' news 0 cur w hg (by simpa using hfit) h1
      simp only [Nat.add_zero] at hst
      have hsize : (cur.toList.take (n * i.size) ++ news ++ cur.toList.drop (n * i.size + news.length)).toArray.size = cur.size := by
        simp only [List.size_toArray, List.length_append, List.length_take, List.length_drop, Array.length_toList]; omega
      refine ⟨.slice (some ⟨b, 0, none⟩) (n + m) cap, w.setRow b (cur.toList.take (n * i.size) ++ news ++ cur.toList.drop (n * i.size + news.length)).toArray, e', ?_,
        ⟨hlen, .inr ⟨b, cap, _, rfl, hbg, setRow_heap w b cur _ e' _ hg, hroom, hcm, by rw [hsize]; exact hcs, ?_⟩⟩, (fr_row hg hsize).mono (fun x y _ h => by simp [Value.ownBlock, h]), by simp, fun k hk => .inl hk⟩
      · simp [Builtin.append_, run_underlying ht, run_underlying hu, hmatch, sizeOf, typeInfo, hi, hlo, hroom, h0, Addr.add_lit, hst]
      · rw [htake, ← hlen]
        exact List.take_left
    · have h0 := hf w.drew (.inr rfl)
      have holds : ∀ j u, xs[j]? = some u → w.cell? ((⟨b, 0, none⟩ : Addr).add j) = some u := hown.cells (g := b) rfl
      have hfo := run_firstCells_some (P := P) w.drew i.size n ⟨b, 0, none⟩ n cap xs hown.1 (by simpa using holds)
      have hcap' : ¬ (281474976710656 < Builtin.nextslicecap (n + m) cap * i.bytes) := by
        have := growslice_fits (bytes := i.bytes) (show cap < n + m from by omega) (hfitB _ (Nat.le_refl _)); omega
      have hn63 : ¬ (9223372036854775807 < (n : Int) + (m : Int)) := by omega
      refine ⟨_, _, e, ?_, grown cap, (fr_drew w).mono (fun _ _ _ h => h.elim) |>.trans ((fr_alloc w.drew _).mono fun _ _ _ h => h.elim), by simp, fun k hk => by simp [Value.ownBlock] at hk; exact .inr (by omega)⟩
      simp [Builtin.append_, run_underlying ht, run_underlying hu, hmatch, sizeOf, typeInfo, zeroValue, hi, hz, hlo, hroom, hcap', hn63, Question.forced, h0, hfo, newRow, grownCap]
      congr 2
      apply Array.ext'
      simp [List.append_assoc]
end
end Go.Ev
