/- What the program's functions compute, and plain facts of it (part 2). No condition beyond those that each theorem states. -/
import Derived.Test.YtjfjniebmdafeaaDoorQP1
set_option linter.unusedVariables false
set_option linter.unusedSimpArgs false
section
namespace Go.Proofs.YtjfjniebmdafeaaDoor
open Go.Ev
structure Ld where
  mi : Int
  mo : Int
  ti : Int
  ou : Int
def Ld.add (a b : Ld) : Ld := ⟨a.mi + b.mi, a.mo + b.mo, a.ti + b.ti, a.ou + b.ou⟩
theorem StF.mk' {r : Int} {l : List Cell} {m t b m' t' : List Int} (F : StF r l m t b) (hm : m'.length = l.length) (ht : t'.length = l.length) (h : ∀ i, i < l.length → 0 ≤ m'.getD i 0 ∧ 0 ≤ t'.getD i 0 ∧ t'.getD i 0 ≤ 1000 * m'.getD i 0) (hs : isum m' ≤ 10000000) : StF r l m' t' b := by
  refine ⟨F.mesh, F.bal, hm, ht, F.bl, ?_, F.bed, hs⟩
  refine qfu _ _ (by omega) fun i hi => ?_
  have a := h i (by omega)
  have nn : ∀ x ∈ m', 0 ≤ x := by
    intro x hx
    obtain ⟨j, hj, rfl⟩ := List.getElem_of_mem hx
    have := (h j (by omega)).1
    rwa [List.getD_eq_getElem?_getD, List.getElem?_eq_getElem hj, Option.getD_some] at this
  have := qdy m' nn _ (qef hi 0)
  exact ⟨⟨a.1, by omega⟩, a.2⟩
section
variable {r : Int} {l : List Cell} {m t b : List Int}
end
section
variable {r : Int} {l : List Cell} {m t b : List Int}
end
end Go.Proofs.YtjfjniebmdafeaaDoor
end
section
namespace Go.Proofs.YtjfjniebmdafeaaDoor
open Go.Ev
theorem qdp (k : Nat) (a0 a1 a2 : Int) : go (k + 1) spec_BorderOk [(.agg [(.int .i64 (a0)), (.int .i64 (a1)), (.int .i64 (a2))])] =
 (go k spec_l01In [(.int .i64 (a0)), (.int .i64 (0 : Int)), (.int .i64 ((10000 : Int)))]).bind fun r0 =>
 cond (bit (nth r0 0))
 ((go k spec_l01In [(.int .i64 (a1)), (.int .i64 (0 : Int)), (.int .i64 ((1000 : Int)))]).bind fun r1 =>
 cond (bit (nth r1 0))
 ((go k spec_l01In [(.int .i64 (a2)), (.int .i64 (0 : Int)), (.int .i64 ((250 : Int)))]).bind fun r2 =>
 some [(.bool (bit (nth r2 0)))])
 (some [(.bool (false))]))
 (some [(.bool (false))]) := by kernel_rfl
theorem qc2 (k : Nat) (a0 a1 a2 : Int) : go (k + 1) impl_BorderOk [(.agg [(.int .i64 (a0)), (.int .i64 (a1)), (.int .i64 (a2))])] =
 (go k impl_within [(.int .i64 (a0)), (.int .i64 (0 : Int)), (.int .i64 ((10000 : Int)))]).bind fun r0 =>
 cond (bit (nth r0 0))
 ((go k impl_within [(.int .i64 (a1)), (.int .i64 (0 : Int)), (.int .i64 ((1000 : Int)))]).bind fun r1 =>
 cond (bit (nth r1 0))
 ((go k impl_within [(.int .i64 (a2)), (.int .i64 (0 : Int)), (.int .i64 ((250 : Int)))]).bind fun r2 =>
 some [(.bool (bit (nth r2 0)))])
 (some [(.bool (false))]))
 (some [(.bool (false))]) := by kernel_rfl
theorem qde (k : Nat) (a : Int) : go (k + 1) impl_isRain [(.int .i64 (a))] =
 (go k impl_within [(.int .i64 (a)), (.int .i64 (0 : Int)), (.int .i64 ((10000 : Int)))]).bind fun r0 =>
 some [(.bool (bit (nth r0 0)))] := by kernel_rfl
theorem qdf (k : Nat) (a : Int) : go (k + 1) impl_isRate [(.int .i64 (a))] =
 (go k impl_within [(.int .i64 (a)), (.int .i64 (0 : Int)), (.int .i64 ((1000 : Int)))]).bind fun r0 =>
 some [(.bool (bit (nth r0 0)))] := by kernel_rfl
end Go.Proofs.YtjfjniebmdafeaaDoor
end
section
namespace Go.Proofs.YtjfjniebmdafeaaDoor
open Go.Ev
def qaw (a b c : Int) : Bool := inR a 0 10000 && (inR b 0 1000 && inR c 0 250)
theorem qbm (k : Nat) (hk : 2000000 ≤ k) (a0 : Int) (a1 : Int) (a2 : Int) : go (k + 2) spec_BorderOk [(.agg [(.int .i64 (a0)), (.int .i64 (a1)), (.int .i64 (a2))])] = some [.bool (qaw a0 a1 a2)] := by
  rw [qdp]
  simp (disch := omega) only [qat, nth0, nth1, nth2, nth3, bit, qby, qbz, qca, qcf, qcg, qch, qci, qcj, qck, qcl, qb0, qb1, qb2, qb3, qb4, qb5, qb6, qb7, qb8, qb9, qcb, qcc, qcd, qce, qho, qhn, qhp, qf3, qgo, qgq, qeo, qav, qhk, nI, qcq, qcp, Bool.not_true, Bool.not_false, Bool.and_true, Bool.true_and, Bool.and_false, Bool.false_and, Bool.or_true, Bool.true_or, Bool.or_false, Bool.false_or, beq_self_eq_true, dTT, dFF, dT, dF, bigI, big0, qf2, qhz, qh0, List.length_set, List.length_replicate, Int.toNat_natCast, qbw, qbx, imax, imin, qbs, qcs]
  rfl
theorem qa1 (k : Nat) (hk : 2000000 ≤ k) (a0 : Int) (a1 : Int) (a2 : Int) : go (k + 2) impl_BorderOk [(.agg [(.int .i64 (a0)), (.int .i64 (a1)), (.int .i64 (a2))])] = some [.bool (qaw a0 a1 a2)] := by
  rw [qc2]
  simp (disch := omega) only [qat, nth0, nth1, nth2, nth3, bit, qby, qbz, qca, qcf, qcg, qch, qci, qcj, qck, qcl, qb0, qb1, qb2, qb3, qb4, qb5, qb6, qb7, qb8, qb9, qcb, qcc, qcd, qce, qho, qhn, qhp, qf3, qgo, qgq, qeo, qav, qhk, nI, qcq, qcp, Bool.not_true, Bool.not_false, Bool.and_true, Bool.true_and, Bool.and_false, Bool.false_and, Bool.or_true, Bool.true_or, Bool.or_false, Bool.false_or, beq_self_eq_true, dTT, dFF, dT, dF, bigI, big0, qf2, qhz, qh0, List.length_set, List.length_replicate, Int.toNat_natCast, qbw, qbx, imax, imin, qbh, qcs]
  rfl
theorem qbd (k : Nat) (hk : 2000000 ≤ k) (a : Int) : go (k + 2) impl_isRain [(.int .i64 (a))] = some [.bool (inR a 0 10000)] := by
  rw [qde]
  simp (disch := omega) only [qat, nth0, nth1, nth2, nth3, bit, qby, qbz, qca, qcf, qcg, qch, qci, qcj, qck, qcl, qb0, qb1, qb2, qb3, qb4, qb5, qb6, qb7, qb8, qb9, qcb, qcc, qcd, qce, qho, qhn, qhp, qf3, qgo, qgq, qeo, qav, qhk, nI, qcq, qcp, Bool.not_true, Bool.not_false, Bool.and_true, Bool.true_and, Bool.and_false, Bool.false_and, Bool.or_true, Bool.true_or, Bool.or_false, Bool.false_or, beq_self_eq_true, dTT, dFF, dT, dF, bigI, big0, qf2, qhz, qh0, List.length_set, List.length_replicate, Int.toNat_natCast, qbw, qbx, imax, imin, qbh]
theorem qbe (k : Nat) (hk : 2000000 ≤ k) (a : Int) : go (k + 2) impl_isRate [(.int .i64 (a))] = some [.bool (inR a 0 1000)] := by
  rw [qdf]
  simp (disch := omega) only [qat, nth0, nth1, nth2, nth3, bit, qby, qbz, qca, qcf, qcg, qch, qci, qcj, qck, qcl, qb0, qb1, qb2, qb3, qb4, qb5, qb6, qb7, qb8, qb9, qcb, qcc, qcd, qce, qho, qhn, qhp, qf3, qgo, qgq, qeo, qav, qhk, nI, qcq, qcp, Bool.not_true, Bool.not_false, Bool.and_true, Bool.true_and, Bool.and_false, Bool.false_and, Bool.or_true, Bool.true_or, Bool.or_false, Bool.false_or, beq_self_eq_true, dTT, dFF, dT, dF, bigI, big0, qf2, qhz, qh0, List.length_set, List.length_replicate, Int.toNat_natCast, qbw, qbx, imax, imin, qbh]
end Go.Proofs.YtjfjniebmdafeaaDoor
end
section
namespace Go.Proofs.YtjfjniebmdafeaaDoor
open Go.Ev
set_option maxRecDepth 20000
def sgl (c d : Int) : Bool := decide (c = 0) && decide (d = 0)
def qad (a b c d : Int) : Bool := cond (decide (a = 1)) (sgl c d && inR b 1 20) (cond (decide (a = 2)) (sgl c d && inR b 0 10000) (cond (decide (a = 3)) (sgl c d && inR b 0 10000) (cond (decide (a = 4)) (qaw b c d) (cond (decide (a = 5)) (sgl c d && inR b 0 1000) (cond (decide (a = 6)) (inR b 0 1000000 && (inR c 0 1000000 && inR d 0 100)) (cond (decide (a = 7)) (inR b 0 127 && (inR c 1 10000 && inR d 0 1000)) false))))))
set_option maxHeartbeats 2000000 in
theorem qa0 (k : Nat) (hk : 2000000 ≤ k) (a0 : Int) (a1 : Int) (a2 : Int) (a3 : Int) : go (k + 3) impl_ActOk [(.agg [(.int .i64 (a0)), (.int .i64 (a1)), (.int .i64 (a2)), (.int .i64 (a3))])] = some [.bool (qad a0 a1 a2 a3)] := by
  rw [qc1]
  unfold qad sgl
  by_cases hc : a2 = 0 <;> by_cases hd : a3 = 0
  all_goals
    by_cases h1 : a0 = 1
    · simp (disch := omega) only [qat, nth0, nth1, nth2, nth3, bit, qby, qbz, qca, qcf, qcg, qch, qci, qcj, qck, qcl, qb0, qb1, qb2, qb3, qb4, qb5, qb6, qb7, qb8, qb9, qcb, qcc, qcd, qce, qho, qhn, qhp, qf3, qgo, qgq, qeo, qav, qhk, nI, qcq, qcp, Bool.not_true, Bool.not_false, Bool.and_true, Bool.true_and, Bool.and_false, Bool.false_and, Bool.or_true, Bool.true_or, Bool.or_false, Bool.false_or, beq_self_eq_true, dTT, dFF, dT, dF, bigI, big0, qf2, qhz, qh0, List.length_set, List.length_replicate, Int.toNat_natCast, qbw, qbx, imax, imin, qbh]
    by_cases h2 : a0 = 2
    · simp (disch := omega) only [qat, nth0, nth1, nth2, nth3, bit, qby, qbz, qca, qcf, qcg, qch, qci, qcj, qck, qcl, qb0, qb1, qb2, qb3, qb4, qb5, qb6, qb7, qb8, qb9, qcb, qcc, qcd, qce, qho, qhn, qhp, qf3, qgo, qgq, qeo, qav, qhk, nI, qcq, qcp, Bool.not_true, Bool.not_false, Bool.and_true, Bool.true_and, Bool.and_false, Bool.false_and, Bool.or_true, Bool.true_or, Bool.or_false, Bool.false_or, beq_self_eq_true, dTT, dFF, dT, dF, bigI, big0, qf2, qhz, qh0, List.length_set, List.length_replicate, Int.toNat_natCast, qbw, qbx, imax, imin, qbd]
    by_cases h3 : a0 = 3
    · simp (disch := omega) only [qat, nth0, nth1, nth2, nth3, bit, qby, qbz, qca, qcf, qcg, qch, qci, qcj, qck, qcl, qb0, qb1, qb2, qb3, qb4, qb5, qb6, qb7, qb8, qb9, qcb, qcc, qcd, qce, qho, qhn, qhp, qf3, qgo, qgq, qeo, qav, qhk, nI, qcq, qcp, Bool.not_true, Bool.not_false, Bool.and_true, Bool.true_and, Bool.and_false, Bool.false_and, Bool.or_true, Bool.true_or, Bool.or_false, Bool.false_or, beq_self_eq_true, dTT, dFF, dT, dF, bigI, big0, qf2, qhz, qh0, List.length_set, List.length_replicate, Int.toNat_natCast, qbw, qbx, imax, imin, qbd]
    by_cases h4 : a0 = 4
    · simp (disch := omega) only [qat, nth0, nth1, nth2, nth3, bit, qby, qbz, qca, qcf, qcg, qch, qci, qcj, qck, qcl, qb0, qb1, qb2, qb3, qb4, qb5, qb6, qb7, qb8, qb9, qcb, qcc, qcd, qce, qho, qhn, qhp, qf3, qgo, qgq, qeo, qav, qhk, nI, qcq, qcp, Bool.not_true, Bool.not_false, Bool.and_true, Bool.true_and, Bool.and_false, Bool.false_and, Bool.or_true, Bool.true_or, Bool.or_false, Bool.false_or, beq_self_eq_true, dTT, dFF, dT, dF, bigI, big0, qf2, qhz, qh0, List.length_set, List.length_replicate, Int.toNat_natCast, qbw, qbx, imax, imin, qa1]
    by_cases h5 : a0 = 5
    · simp (disch := omega) only [qat, nth0, nth1, nth2, nth3, bit, qby, qbz, qca, qcf, qcg, qch, qci, qcj, qck, qcl, qb0, qb1, qb2, qb3, qb4, qb5, qb6, qb7, qb8, qb9, qcb, qcc, qcd, qce, qho, qhn, qhp, qf3, qgo, qgq, qeo, qav, qhk, nI, qcq, qcp, Bool.not_true, Bool.not_false, Bool.and_true, Bool.true_and, Bool.and_false, Bool.false_and, Bool.or_true, Bool.true_or, Bool.or_false, Bool.false_or, beq_self_eq_true, dTT, dFF, dT, dF, bigI, big0, qf2, qhz, qh0, List.length_set, List.length_replicate, Int.toNat_natCast, qbw, qbx, imax, imin, qbe]
    by_cases h6 : a0 = 6
    · simp (disch := omega) only [qat, nth0, nth1, nth2, nth3, bit, qby, qbz, qca, qcf, qcg, qch, qci, qcj, qck, qcl, qb0, qb1, qb2, qb3, qb4, qb5, qb6, qb7, qb8, qb9, qcb, qcc, qcd, qce, qho, qhn, qhp, qf3, qgo, qgq, qeo, qav, qhk, nI, qcq, qcp, Bool.not_true, Bool.not_false, Bool.and_true, Bool.true_and, Bool.and_false, Bool.false_and, Bool.or_true, Bool.true_or, Bool.or_false, Bool.false_or, beq_self_eq_true, dTT, dFF, dT, dF, bigI, big0, qf2, qhz, qh0, List.length_set, List.length_replicate, Int.toNat_natCast, qbw, qbx, imax, imin, qbh, qcs]
    by_cases h7 : a0 = 7
    · simp (disch := omega) only [qat, nth0, nth1, nth2, nth3, bit, qby, qbz, qca, qcf, qcg, qch, qci, qcj, qck, qcl, qb0, qb1, qb2, qb3, qb4, qb5, qb6, qb7, qb8, qb9, qcb, qcc, qcd, qce, qho, qhn, qhp, qf3, qgo, qgq, qeo, qav, qhk, nI, qcq, qcp, Bool.not_true, Bool.not_false, Bool.and_true, Bool.true_and, Bool.and_false, Bool.false_and, Bool.or_true, Bool.true_or, Bool.or_false, Bool.false_or, beq_self_eq_true, dTT, dFF, dT, dF, bigI, big0, qf2, qhz, qh0, List.length_set, List.length_replicate, Int.toNat_natCast, qbw, qbx, imax, imin, qbh, qcs]
    simp (disch := omega) only [qat, nth0, nth1, nth2, nth3, bit, qby, qbz, qca, qcf, qcg, qch, qci, qcj, qck, qcl, qb0, qb1, qb2, qb3, qb4, qb5, qb6, qb7, qb8, qb9, qcb, qcc, qcd, qce, qho, qhn, qhp, qf3, qgo, qgq, qeo, qav, qhk, nI, qcq, qcp, Bool.not_true, Bool.not_false, Bool.and_true, Bool.true_and, Bool.and_false, Bool.false_and, Bool.or_true, Bool.true_or, Bool.or_false, Bool.false_or, beq_self_eq_true, dTT, dFF, dT, dF, bigI, big0, qf2, qhz, qh0, List.length_set, List.length_replicate, Int.toNat_natCast, qbw, qbx, imax, imin]
set_option maxHeartbeats 2000000 in
theorem qbl (k : Nat) (hk : 2000000 ≤ k) (a0 : Int) (a1 : Int) (a2 : Int) (a3 : Int) : go (k + 3) spec_ActOk [(.agg [(.int .i64 (a0)), (.int .i64 (a1)), (.int .i64 (a2)), (.int .i64 (a3))])] = some [.bool (qad a0 a1 a2 a3)] := by
  rw [qdo]
  unfold qad sgl
  by_cases hc : a2 = 0 <;> by_cases hd : a3 = 0
  all_goals
    by_cases h1 : a0 = 1
    · simp (disch := omega) only [qat, nth0, nth1, nth2, nth3, bit, qby, qbz, qca, qcf, qcg, qch, qci, qcj, qck, qcl, qb0, qb1, qb2, qb3, qb4, qb5, qb6, qb7, qb8, qb9, qcb, qcc, qcd, qce, qho, qhn, qhp, qf3, qgo, qgq, qeo, qav, qhk, nI, qcq, qcp, Bool.not_true, Bool.not_false, Bool.and_true, Bool.true_and, Bool.and_false, Bool.false_and, Bool.or_true, Bool.true_or, Bool.or_false, Bool.false_or, beq_self_eq_true, dTT, dFF, dT, dF, bigI, big0, qf2, qhz, qh0, List.length_set, List.length_replicate, Int.toNat_natCast, qbw, qbx, imax, imin, qdx, qbs]
    by_cases h2 : a0 = 2
    · simp (disch := omega) only [qat, nth0, nth1, nth2, nth3, bit, qby, qbz, qca, qcf, qcg, qch, qci, qcj, qck, qcl, qb0, qb1, qb2, qb3, qb4, qb5, qb6, qb7, qb8, qb9, qcb, qcc, qcd, qce, qho, qhn, qhp, qf3, qgo, qgq, qeo, qav, qhk, nI, qcq, qcp, Bool.not_true, Bool.not_false, Bool.and_true, Bool.true_and, Bool.and_false, Bool.false_and, Bool.or_true, Bool.true_or, Bool.or_false, Bool.false_or, beq_self_eq_true, dTT, dFF, dT, dF, bigI, big0, qf2, qhz, qh0, List.length_set, List.length_replicate, Int.toNat_natCast, qbw, qbx, imax, imin, qdx, qbs]
    by_cases h3 : a0 = 3
    · simp (disch := omega) only [qat, nth0, nth1, nth2, nth3, bit, qby, qbz, qca, qcf, qcg, qch, qci, qcj, qck, qcl, qb0, qb1, qb2, qb3, qb4, qb5, qb6, qb7, qb8, qb9, qcb, qcc, qcd, qce, qho, qhn, qhp, qf3, qgo, qgq, qeo, qav, qhk, nI, qcq, qcp, Bool.not_true, Bool.not_false, Bool.and_true, Bool.true_and, Bool.and_false, Bool.false_and, Bool.or_true, Bool.true_or, Bool.or_false, Bool.false_or, beq_self_eq_true, dTT, dFF, dT, dF, bigI, big0, qf2, qhz, qh0, List.length_set, List.length_replicate, Int.toNat_natCast, qbw, qbx, imax, imin, qdx, qbs]
    by_cases h4 : a0 = 4
    · simp (disch := omega) only [qat, nth0, nth1, nth2, nth3, bit, qby, qbz, qca, qcf, qcg, qch, qci, qcj, qck, qcl, qb0, qb1, qb2, qb3, qb4, qb5, qb6, qb7, qb8, qb9, qcb, qcc, qcd, qce, qho, qhn, qhp, qf3, qgo, qgq, qeo, qav, qhk, nI, qcq, qcp, Bool.not_true, Bool.not_false, Bool.and_true, Bool.true_and, Bool.and_false, Bool.false_and, Bool.or_true, Bool.true_or, Bool.or_false, Bool.false_or, beq_self_eq_true, dTT, dFF, dT, dF, bigI, big0, qf2, qhz, qh0, List.length_set, List.length_replicate, Int.toNat_natCast, qbw, qbx, imax, imin, qdx, qbm]
    by_cases h5 : a0 = 5
    · simp (disch := omega) only [qat, nth0, nth1, nth2, nth3, bit, qby, qbz, qca, qcf, qcg, qch, qci, qcj, qck, qcl, qb0, qb1, qb2, qb3, qb4, qb5, qb6, qb7, qb8, qb9, qcb, qcc, qcd, qce, qho, qhn, qhp, qf3, qgo, qgq, qeo, qav, qhk, nI, qcq, qcp, Bool.not_true, Bool.not_false, Bool.and_true, Bool.true_and, Bool.and_false, Bool.false_and, Bool.or_true, Bool.true_or, Bool.or_false, Bool.false_or, beq_self_eq_true, dTT, dFF, dT, dF, bigI, big0, qf2, qhz, qh0, List.length_set, List.length_replicate, Int.toNat_natCast, qbw, qbx, imax, imin, qdx, qbs]
    by_cases h6 : a0 = 6
    · simp (disch := omega) only [qat, nth0, nth1, nth2, nth3, bit, qby, qbz, qca, qcf, qcg, qch, qci, qcj, qck, qcl, qb0, qb1, qb2, qb3, qb4, qb5, qb6, qb7, qb8, qb9, qcb, qcc, qcd, qce, qho, qhn, qhp, qf3, qgo, qgq, qeo, qav, qhk, nI, qcq, qcp, Bool.not_true, Bool.not_false, Bool.and_true, Bool.true_and, Bool.and_false, Bool.false_and, Bool.or_true, Bool.true_or, Bool.or_false, Bool.false_or, beq_self_eq_true, dTT, dFF, dT, dF, bigI, big0, qf2, qhz, qh0, List.length_set, List.length_replicate, Int.toNat_natCast, qbw, qbx, imax, imin, qdx, qbs, qcs]
    by_cases h7 : a0 = 7
    · simp (disch := omega) only [qat, nth0, nth1, nth2, nth3, bit, qby, qbz, qca, qcf, qcg, qch, qci, qcj, qck, qcl, qb0, qb1, qb2, qb3, qb4, qb5, qb6, qb7, qb8, qb9, qcb, qcc, qcd, qce, qho, qhn, qhp, qf3, qgo, qgq, qeo, qav, qhk, nI, qcq, qcp, Bool.not_true, Bool.not_false, Bool.and_true, Bool.true_and, Bool.and_false, Bool.false_and, Bool.or_true, Bool.true_or, Bool.or_false, Bool.false_or, beq_self_eq_true, dTT, dFF, dT, dF, bigI, big0, qf2, qhz, qh0, List.length_set, List.length_replicate, Int.toNat_natCast, qbw, qbx, imax, imin, qdx, qbs, qcs]
    simp (disch := omega) only [qat, nth0, nth1, nth2, nth3, bit, qby, qbz, qca, qcf, qcg, qch, qci, qcj, qck, qcl, qb0, qb1, qb2, qb3, qb4, qb5, qb6, qb7, qb8, qb9, qcb, qcc, qcd, qce, qho, qhn, qhp, qf3, qgo, qgq, qeo, qav, qhk, nI, qcq, qcp, Bool.not_true, Bool.not_false, Bool.and_true, Bool.true_and, Bool.and_false, Bool.false_and, Bool.or_true, Bool.true_or, Bool.or_false, Bool.false_or, beq_self_eq_true, dTT, dFF, dT, dF, bigI, big0, qf2, qhz, qh0, List.length_set, List.length_replicate, Int.toNat_natCast, qbw, qbx, imax, imin, qdx]
end Go.Proofs.YtjfjniebmdafeaaDoor
end
section
namespace Go.Proofs.YtjfjniebmdafeaaDoor
open Go.Ev
set_option maxRecDepth 20000
def nmB (a : Int) : List UInt8 := if a = 1 then [114, 117, 110] else if a = 2 then [114, 97, 105, 110] else if a = 3 then [108, 111, 115, 115] else if a = 4 then [102, 108, 111, 119] else if a = 5 then [100, 101, 99, 97, 121] else if a = 6 then [109, 101, 115, 104] else [100, 114, 111, 112]
def actL (a b c d : Int) : List UInt8 := if a = 4 ∨ a = 6 ∨ a = 7 then spacedL (nmB a) [b, c, d] else spacedL (nmB a) [b]
theorem qag {a : Int} (h : 1 ≤ a ∧ a ≤ 7) : a = 1 ∨ a = 2 ∨ a = 3 ∨ a = 4 ∨ a = 5 ∨ a = 6 ∨ a = 7 := by omega
theorem qaf {a b c d : Int} (h : qad a b c d = true) : 1 ≤ a ∧ a ≤ 7 := by
  unfold qad at h
  refine Classical.byContradiction fun hh => ?_
  have n1 : ¬ a = 1 := by omega
  have n2 : ¬ a = 2 := by omega
  have n3 : ¬ a = 3 := by omega
  have n4 : ¬ a = 4 := by omega
  have n5 : ¬ a = 5 := by omega
  have n6 : ¬ a = 6 := by omega
  have n7 : ¬ a = 7 := by omega
  simp [n1, n2, n3, n4, n5, n6, n7] at h
theorem qae {a b c d : Int} (h : qad a b c d = true) : (1 ≤ a ∧ a ≤ 7) ∧ (0 ≤ b ∧ b ≤ 1000000) ∧ (0 ≤ c ∧ c ≤ 1000000) ∧ 0 ≤ d ∧ d ≤ 1000000 := by
  have k := qaf h
  refine ⟨k, ?_⟩
  rcases qag k with rfl | rfl | rfl | rfl | rfl | rfl | rfl <;> simp [qad, sgl, qaw, inR] at h <;> omega
theorem in64 {x : Int} (h : 0 ≤ x ∧ x ≤ 1000000) : inI64 x = true := by
  unfold inI64; rw [decide_eq_true (by omega : -9223372036854775808 ≤ x), decide_eq_true (by omega : x ≤ 9223372036854775807)]; rfl
theorem y1 : ({ data := #[(32 : UInt8)] } : ByteArray) = ba [32] := Eq.trans rfl rfl
theorem y2 : ({ data := #[(114 : UInt8), (117 : UInt8), (110 : UInt8)] } : ByteArray) = ba [114, 117, 110] := Eq.trans rfl rfl
theorem y3 : ({ data := #[(114 : UInt8), (97 : UInt8), (105 : UInt8), (110 : UInt8)] } : ByteArray) = ba [114, 97, 105, 110] := Eq.trans rfl rfl
theorem y4 : ({ data := #[(108 : UInt8), (111 : UInt8), (115 : UInt8), (115 : UInt8)] } : ByteArray) = ba [108, 111, 115, 115] := Eq.trans rfl rfl
theorem y5 : ({ data := #[(102 : UInt8), (108 : UInt8), (111 : UInt8), (119 : UInt8)] } : ByteArray) = ba [102, 108, 111, 119] := Eq.trans rfl rfl
theorem y6 : ({ data := #[(100 : UInt8), (101 : UInt8), (99 : UInt8), (97 : UInt8), (121 : UInt8)] } : ByteArray) = ba [100, 101, 99, 97, 121] := Eq.trans rfl rfl
theorem y7 : ({ data := #[(109 : UInt8), (101 : UInt8), (115 : UInt8), (104 : UInt8)] } : ByteArray) = ba [109, 101, 115, 104] := Eq.trans rfl rfl
theorem y8 : ({ data := #[(100 : UInt8), (114 : UInt8), (111 : UInt8), (112 : UInt8)] } : ByteArray) = ba [100, 114, 111, 112] := Eq.trans rfl rfl
theorem y0 : ({ data := #[] } : ByteArray) = ba [] := Eq.trans rfl rfl
theorem qbo (k : Nat) (hk : 2000000 ≤ k) (a b c d : Int) : go (k + 4) spec_FormatAct [.agg [.int .i64 a, .int .i64 b, .int .i64 c, .int .i64 d]] = cond (qad a b c d) (some [.str (ba (actL a b c d)), .bool true]) (some [.str (ba []), .bool false]) := by
  rw [qdq]
  cases g : qad a b c d
  · simp (disch := omega) only [qat, nth0, nth1, nth2, nth3, bit, qby, qbz, qca, qcf, qcg, qch, qci, qcj, qck, qcl, qb0, qb1, qb2, qb3, qb4, qb5, qb6, qb7, qb8, qb9, qcb, qcc, qcd, qce, qho, qhn, qhp, qf3, qgo, qgq, qeo, qav, qhk, nI, qcq, qcp, Bool.not_true, Bool.not_false, Bool.and_true, Bool.true_and, Bool.and_false, Bool.false_and, Bool.or_true, Bool.true_or, Bool.or_false, Bool.false_or, beq_self_eq_true, dTT, dFF, dT, dF, bigI, big0, qf2, qhz, qh0, List.length_set, List.length_replicate, Int.toNat_natCast, qbw, qbx, imax, imin, qbl, g, y0]
  have bd := qae g
  have sb := qex b (in64 bd.2.1); have sc := qex c (in64 bd.2.2.1); have sd := qex d (in64 bd.2.2.2)
  have fb := qbp (k + 1) (by omega) b (in64 bd.2.1)
  have fc := qbp (k + 1) (by omega) c (in64 bd.2.2.1)
  have fd := qbp (k + 1) (by omega) d (in64 bd.2.2.2)
  rcases qag bd.1 with h | h | h | h | h | h | h
  · have e : actL a b c d = [114, 117, 110] ++ ([32] ++ Lib.itoa b) := by subst h; simp [actL, nmB, spacedL]
    rw [e]
    simp (disch := omega) only [qat, nth0, nth1, nth2, nth3, bit, qby, qbz, qca, qcf, qcg, qch, qci, qcj, qck, qcl, qb0, qb1, qb2, qb3, qb4, qb5, qb6, qb7, qb8, qb9, qcb, qcc, qcd, qce, qho, qhn, qhp, qf3, qgo, qgq, qeo, qav, qhk, nI, qcq, qcp, Bool.not_true, Bool.not_false, Bool.and_true, Bool.true_and, Bool.and_false, Bool.false_and, Bool.or_true, Bool.true_or, Bool.or_false, Bool.false_or, beq_self_eq_true, dTT, dFF, dT, dF, bigI, big0, qf2, qhz, qh0, List.length_set, List.length_replicate, Int.toNat_natCast, qbw, qbx, imax, imin, qbl, g, fb, fc, fd, y1, y2, y3, y4, y5, y6, y7, y8, qan, qaq, List.length_append, List.length_cons, List.length_nil]
  · have e : actL a b c d = [114, 97, 105, 110] ++ ([32] ++ Lib.itoa b) := by subst h; simp [actL, nmB, spacedL]
    rw [e]
    simp (disch := omega) only [qat, nth0, nth1, nth2, nth3, bit, qby, qbz, qca, qcf, qcg, qch, qci, qcj, qck, qcl, qb0, qb1, qb2, qb3, qb4, qb5, qb6, qb7, qb8, qb9, qcb, qcc, qcd, qce, qho, qhn, qhp, qf3, qgo, qgq, qeo, qav, qhk, nI, qcq, qcp, Bool.not_true, Bool.not_false, Bool.and_true, Bool.true_and, Bool.and_false, Bool.false_and, Bool.or_true, Bool.true_or, Bool.or_false, Bool.false_or, beq_self_eq_true, dTT, dFF, dT, dF, bigI, big0, qf2, qhz, qh0, List.length_set, List.length_replicate, Int.toNat_natCast, qbw, qbx, imax, imin, qbl, g, fb, fc, fd, y1, y2, y3, y4, y5, y6, y7, y8, qan, qaq, List.length_append, List.length_cons, List.length_nil]
  · have e : actL a b c d = [108, 111, 115, 115] ++ ([32] ++ Lib.itoa b) := by subst h; simp [actL, nmB, spacedL]
    rw [e]
    simp (disch := omega) only [qat, nth0, nth1, nth2, nth3, bit, qby, qbz, qca, qcf, qcg, qch, qci, qcj, qck, qcl, qb0, qb1, qb2, qb3, qb4, qb5, qb6, qb7, qb8, qb9, qcb, qcc, qcd, qce, qho, qhn, qhp, qf3, qgo, qgq, qeo, qav, qhk, nI, qcq, qcp, Bool.not_true, Bool.not_false, Bool.and_true, Bool.true_and, Bool.and_false, Bool.false_and, Bool.or_true, Bool.true_or, Bool.or_false, Bool.false_or, beq_self_eq_true, dTT, dFF, dT, dF, bigI, big0, qf2, qhz, qh0, List.length_set, List.length_replicate, Int.toNat_natCast, qbw, qbx, imax, imin, qbl, g, fb, fc, fd, y1, y2, y3, y4, y5, y6, y7, y8, qan, qaq, List.length_append, List.length_cons, List.length_nil]
  · have e : actL a b c d = [102, 108, 111, 119] ++ ([32] ++ Lib.itoa b ++ [32] ++ Lib.itoa c ++ [32] ++ Lib.itoa d) := by subst h; simp [actL, nmB, spacedL]
    rw [e]
    simp (disch := omega) only [qat, nth0, nth1, nth2, nth3, bit, qby, qbz, qca, qcf, qcg, qch, qci, qcj, qck, qcl, qb0, qb1, qb2, qb3, qb4, qb5, qb6, qb7, qb8, qb9, qcb, qcc, qcd, qce, qho, qhn, qhp, qf3, qgo, qgq, qeo, qav, qhk, nI, qcq, qcp, Bool.not_true, Bool.not_false, Bool.and_true, Bool.true_and, Bool.and_false, Bool.false_and, Bool.or_true, Bool.true_or, Bool.or_false, Bool.false_or, beq_self_eq_true, dTT, dFF, dT, dF, bigI, big0, qf2, qhz, qh0, List.length_set, List.length_replicate, Int.toNat_natCast, qbw, qbx, imax, imin, qbl, g, fb, fc, fd, y1, y2, y3, y4, y5, y6, y7, y8, qan, qaq, List.length_append, List.length_cons, List.length_nil]
  · have e : actL a b c d = [100, 101, 99, 97, 121] ++ ([32] ++ Lib.itoa b) := by subst h; simp [actL, nmB, spacedL]
    rw [e]
    simp (disch := omega) only [qat, nth0, nth1, nth2, nth3, bit, qby, qbz, qca, qcf, qcg, qch, qci, qcj, qck, qcl, qb0, qb1, qb2, qb3, qb4, qb5, qb6, qb7, qb8, qb9, qcb, qcc, qcd, qce, qho, qhn, qhp, qf3, qgo, qgq, qeo, qav, qhk, nI, qcq, qcp, Bool.not_true, Bool.not_false, Bool.and_true, Bool.true_and, Bool.and_false, Bool.false_and, Bool.or_true, Bool.true_or, Bool.or_false, Bool.false_or, beq_self_eq_true, dTT, dFF, dT, dF, bigI, big0, qf2, qhz, qh0, List.length_set, List.length_replicate, Int.toNat_natCast, qbw, qbx, imax, imin, qbl, g, fb, fc, fd, y1, y2, y3, y4, y5, y6, y7, y8, qan, qaq, List.length_append, List.length_cons, List.length_nil]
  · have e : actL a b c d = [109, 101, 115, 104] ++ ([32] ++ Lib.itoa b ++ [32] ++ Lib.itoa c ++ [32] ++ Lib.itoa d) := by subst h; simp [actL, nmB, spacedL]
    rw [e]
    simp (disch := omega) only [qat, nth0, nth1, nth2, nth3, bit, qby, qbz, qca, qcf, qcg, qch, qci, qcj, qck, qcl, qb0, qb1, qb2, qb3, qb4, qb5, qb6, qb7, qb8, qb9, qcb, qcc, qcd, qce, qho, qhn, qhp, qf3, qgo, qgq, qeo, qav, qhk, nI, qcq, qcp, Bool.not_true, Bool.not_false, Bool.and_true, Bool.true_and, Bool.and_false, Bool.false_and, Bool.or_true, Bool.true_or, Bool.or_false, Bool.false_or, beq_self_eq_true, dTT, dFF, dT, dF, bigI, big0, qf2, qhz, qh0, List.length_set, List.length_replicate, Int.toNat_natCast, qbw, qbx, imax, imin, qbl, g, fb, fc, fd, y1, y2, y3, y4, y5, y6, y7, y8, qan, qaq, List.length_append, List.length_cons, List.length_nil]
  · have e : actL a b c d = [100, 114, 111, 112] ++ ([32] ++ Lib.itoa b ++ [32] ++ Lib.itoa c ++ [32] ++ Lib.itoa d) := by subst h; simp [actL, nmB, spacedL]
    rw [e]
    simp (disch := omega) only [qat, nth0, nth1, nth2, nth3, bit, qby, qbz, qca, qcf, qcg, qch, qci, qcj, qck, qcl, qb0, qb1, qb2, qb3, qb4, qb5, qb6, qb7, qb8, qb9, qcb, qcc, qcd, qce, qho, qhn, qhp, qf3, qgo, qgq, qeo, qav, qhk, nI, qcq, qcp, Bool.not_true, Bool.not_false, Bool.and_true, Bool.true_and, Bool.and_false, Bool.false_and, Bool.or_true, Bool.true_or, Bool.or_false, Bool.false_or, beq_self_eq_true, dTT, dFF, dT, dF, bigI, big0, qf2, qhz, qh0, List.length_set, List.length_replicate, Int.toNat_natCast, qbw, qbx, imax, imin, qbl, g, fb, fc, fd, y1, y2, y3, y4, y5, y6, y7, y8, qan, qaq, List.length_append, List.length_cons, List.length_nil]
def NM : List ByteArray := [ba [], ba [114, 117, 110], ba [114, 97, 105, 110], ba [108, 111, 115, 115], ba [102, 108, 111, 119], ba [100, 101, 99, 97, 121], ba [109, 101, 115, 104], ba [100, 114, 111, 112]]
theorem qab : NM.length = 8 := Eq.trans rfl rfl
theorem qaa {a : Int} (h : 1 ≤ a ∧ a ≤ 7) : List.getD NM (Int.toNat a) ByteArray.empty = ba (nmB a) := by
  rcases qag h with rfl | rfl | rfl | rfl | rfl | rfl | rfl <;> rfl
theorem qf4 (a : Int) : ByteArray.size (ba (nmB a)) ≤ 1000 := by
  rw [qaq]; unfold nmB
  repeat' split
  all_goals simp
theorem qba (k : Nat) : go (k + 1) impl_actNames [] = some [.arr true false (.strs NM)] := by
  rw [qdb]; rfl
theorem qa2 (k : Nat) (hk : 2000000 ≤ k) (a b c d : Int) : go (k + 4) impl_FormatAct [.agg [.int .i64 a, .int .i64 b, .int .i64 c, .int .i64 d]] = cond (qad a b c d) (some [.str (ba (actL a b c d)), .bool true]) (some [.str (ba []), .bool false]) := by
  rw [qc3]
  cases g : qad a b c d
  · simp (disch := omega) only [qat, nth0, nth1, nth2, nth3, bit, qby, qbz, qca, qcf, qcg, qch, qci, qcj, qck, qcl, qb0, qb1, qb2, qb3, qb4, qb5, qb6, qb7, qb8, qb9, qcb, qcc, qcd, qce, qho, qhn, qhp, qf3, qgo, qgq, qeo, qav, qhk, nI, qcq, qcp, Bool.not_true, Bool.not_false, Bool.and_true, Bool.true_and, Bool.and_false, Bool.false_and, Bool.or_true, Bool.true_or, Bool.or_false, Bool.false_or, beq_self_eq_true, dTT, dFF, dT, dF, bigI, big0, qf2, qhz, qh0, List.length_set, List.length_replicate, Int.toNat_natCast, qbw, qbx, imax, imin, qa0, g, y0]
  have bd := qae g
  have na := qaa bd.1
  have nl : ((NM.length : Nat) : Int) = 8 := by rw [qab]; rfl
  have s1 := qbg (k + 2) (ba (nmB a)) false [b] (qf4 a) (by simp) (by simp [in64 bd.2.1])
  have s3 := qbg (k + 2) (ba (nmB a)) false [b, c, d] (qf4 a) (by simp) (by simp [in64 bd.2.1, in64 bd.2.2.1, in64 bd.2.2.2])
  rw [qap] at s1 s3
  by_cases h : a = 4 ∨ a = 6 ∨ a = 7
  · have e : actL a b c d = spacedL (nmB a) [b, c, d] := if_pos h
    rw [e]
    rcases h with h | h | h
    · simp (disch := omega) only [qat, nth0, nth1, nth2, nth3, bit, qby, qbz, qca, qcf, qcg, qch, qci, qcj, qck, qcl, qb0, qb1, qb2, qb3, qb4, qb5, qb6, qb7, qb8, qb9, qcb, qcc, qcd, qce, qho, qhn, qhp, qf3, qgo, qgq, qeo, qav, qhk, nI, qcq, qcp, Bool.not_true, Bool.not_false, Bool.and_true, Bool.true_and, Bool.and_false, Bool.false_and, Bool.or_true, Bool.true_or, Bool.or_false, Bool.false_or, beq_self_eq_true, dTT, dFF, dT, dF, bigI, big0, qf2, qhz, qh0, List.length_set, List.length_replicate, Int.toNat_natCast, qbw, qbx, imax, imin, qa0, g, qdg, qba, na, nl, s3, qhk]
    · simp (disch := omega) only [qat, nth0, nth1, nth2, nth3, bit, qby, qbz, qca, qcf, qcg, qch, qci, qcj, qck, qcl, qb0, qb1, qb2, qb3, qb4, qb5, qb6, qb7, qb8, qb9, qcb, qcc, qcd, qce, qho, qhn, qhp, qf3, qgo, qgq, qeo, qav, qhk, nI, qcq, qcp, Bool.not_true, Bool.not_false, Bool.and_true, Bool.true_and, Bool.and_false, Bool.false_and, Bool.or_true, Bool.true_or, Bool.or_false, Bool.false_or, beq_self_eq_true, dTT, dFF, dT, dF, bigI, big0, qf2, qhz, qh0, List.length_set, List.length_replicate, Int.toNat_natCast, qbw, qbx, imax, imin, qa0, g, qdg, qba, na, nl, s3, qhk]
    · simp (disch := omega) only [qat, nth0, nth1, nth2, nth3, bit, qby, qbz, qca, qcf, qcg, qch, qci, qcj, qck, qcl, qb0, qb1, qb2, qb3, qb4, qb5, qb6, qb7, qb8, qb9, qcb, qcc, qcd, qce, qho, qhn, qhp, qf3, qgo, qgq, qeo, qav, qhk, nI, qcq, qcp, Bool.not_true, Bool.not_false, Bool.and_true, Bool.true_and, Bool.and_false, Bool.false_and, Bool.or_true, Bool.true_or, Bool.or_false, Bool.false_or, beq_self_eq_true, dTT, dFF, dT, dF, bigI, big0, qf2, qhz, qh0, List.length_set, List.length_replicate, Int.toNat_natCast, qbw, qbx, imax, imin, qa0, g, qdg, qba, na, nl, s3, qhk]
  · have e : actL a b c d = spacedL (nmB a) [b] := if_neg h
    rw [e]
    simp (disch := omega) only [qat, nth0, nth1, nth2, nth3, bit, qby, qbz, qca, qcf, qcg, qch, qci, qcj, qck, qcl, qb0, qb1, qb2, qb3, qb4, qb5, qb6, qb7, qb8, qb9, qcb, qcc, qcd, qce, qho, qhn, qhp, qf3, qgo, qgq, qeo, qav, qhk, nI, qcq, qcp, Bool.not_true, Bool.not_false, Bool.and_true, Bool.true_and, Bool.and_false, Bool.false_and, Bool.or_true, Bool.true_or, Bool.or_false, Bool.false_or, beq_self_eq_true, dTT, dFF, dT, dF, bigI, big0, qf2, qhz, qh0, List.length_set, List.length_replicate, Int.toNat_natCast, qbw, qbx, imax, imin, qa0, g, qdg, qba, na, nl, s1, qhk]
end Go.Proofs.YtjfjniebmdafeaaDoor
end
section
namespace Go.Proofs.YtjfjniebmdafeaaDoor
open Go.Ev
abbrev okc (b : UInt8) : Bool := decide (32 ≤ b.toNat) && decide (b.toNat ≤ 126)
abbrev wdc (b : UInt8) : Bool := decide (33 ≤ b.toNat) && decide (b.toNat ≤ 126)
def isWd (w : List UInt8) : Bool := !w.isEmpty && w.all wdc
theorem qg7 {b : UInt8} (h : wdc b = true) : Lib.isSp b = false := by
  simp only [wdc, Bool.and_eq_true, decide_eq_true_eq] at h
  unfold Lib.isSp
  have n : ∀ k : UInt8, k.toNat < 33 → (b == k) = false := fun k hk => by
    rw [beq_eq_false_iff_ne]; rintro rfl; omega
  rw [n 9 (by decide), n 10 (by decide), n 11 (by decide), n 12 (by decide), n 13 (by decide), n 32 (by decide)]; rfl
theorem qg6 : Lib.isSp 32 = true := by decide
theorem qgh {b : UInt8} (h : okc b = true) (n : ¬ b = 32) : wdc b = true := by
  simp only [okc, wdc, Bool.and_eq_true, decide_eq_true_eq] at h ⊢
  have : b.toNat ≠ 32 := fun e => n (UInt8.toNat_inj.1 e)
  omega
theorem qeg : ∀ (w cur rest : List UInt8), w.all wdc = true → Lib.fieldsGo cur (w ++ rest) = Lib.fieldsGo (cur ++ w) rest
  | [], cur, rest, h => by simp
  | b :: w, cur, rest, h => by
    rw [List.all_cons, Bool.and_eq_true] at h
    rw [List.cons_append, Lib.fieldsGo_more _ _ _ (qg7 h.1), qeg w _ rest h.2, List.append_assoc]; rfl
theorem qd7 : ∀ (r : List (List UInt8)) (x : List UInt8), isWd x = true → r.all isWd = true → Lib.fieldsGo [] (x ++ Lib.joinTail [32] r) = x :: r
  | [], x, hx, hr => by
    simp only [isWd, Bool.and_eq_true] at hx
    rw [qeg _ _ _ hx.2]
    cases x with
    | nil => simp at hx
    | cons a x => rfl
  | y :: r, x, hx, hr => by
    rw [List.all_cons, Bool.and_eq_true] at hr
    have ih := qd7 r y hr.1 hr.2
    simp only [isWd, Bool.and_eq_true] at hx
    have e : Lib.joinTail [32] (y :: r) = 32 :: (y ++ Lib.joinTail [32] r) := by simp [Lib.joinTail]
    rw [e, qeg _ _ _ hx.2, List.nil_append, Lib.fieldsGo_end x 32 _ qg6 (by rintro rfl; simp at hx), ih]
theorem qd4 (ws : List (List UInt8)) (h : ws.all isWd = true) : Lib.fields (Lib.join ws [32]) = ws := by
  cases ws with
  | nil => rfl
  | cons x r =>
    rw [List.all_cons, Bool.and_eq_true] at h
    rw [Lib.join_cons]
    exact qd7 r x h.1 h.2
theorem qd3 : ∀ (l cur : List UInt8), l.all okc = true → cur.all wdc = true → (Lib.fieldsGo cur l).all isWd = true
  | [], cur, hl, hc => by
    cases cur with
    | nil => rfl
    | cons a x => simp only [Lib.fieldsGo, List.isEmpty_cons, Bool.false_eq_true, if_false, List.all_cons, List.all_nil, Bool.and_true, isWd, Bool.not_false, Bool.true_and]; simpa using hc
  | b :: l, cur, hl, hc => by
    rw [List.all_cons, Bool.and_eq_true] at hl
    by_cases g : b = 32
    · subst g
      cases cur with
      | nil => rw [Lib.fieldsGo_sp _ _ qg6]; exact qd3 l [] hl.2 rfl
      | cons a x =>
        rw [Lib.fieldsGo_end _ _ _ qg6 (by simp), List.all_cons, qd3 l [] hl.2 rfl, Bool.and_true]
        simp only [isWd, List.isEmpty_cons, Bool.not_false, Bool.true_and]; exact hc
    · have w := qgh hl.1 g
      rw [Lib.fieldsGo_more _ _ _ (qg7 w)]
      refine qd3 l _ hl.2 ?_
      rw [List.all_append, hc, List.all_cons, w]; rfl
theorem qd8 {s : List UInt8} (h : s.all okc = true) : (Lib.fields s).all isWd = true := qd3 s [] h rfl
theorem qd2 : ∀ (l cur : List UInt8), ∀ w ∈ Lib.fieldsGo cur l, w.length ≤ cur.length + l.length
  | [], cur, w, h => by
    cases cur with
    | nil => simp [Lib.fieldsGo] at h
    | cons a x => simp [Lib.fieldsGo] at h; subst h; simp
  | b :: l, cur, w, h => by
    unfold Lib.fieldsGo at h
    split at h
    · split at h
      · have := qd2 l [] w h; simp only [List.length_nil, List.length_cons] at *; omega
      · rcases List.mem_cons.1 h with rfl | h
        · omega
        · have := qd2 l [] w h; simp only [List.length_nil, List.length_cons] at *; omega
    · have := qd2 l _ w h
      simp only [List.length_append, List.length_cons, List.length_nil] at *; omega
theorem qd6 {s w : List UInt8} (h : w ∈ Lib.fields s) : w.length ≤ s.length := by
  have := qd2 s [] w h; simpa using this
def isDg (b : UInt8) : Bool := decide (48 ≤ b.toNat) && decide (b.toNat ≤ 57)
theorem qcy (m : Nat) : (UInt8.ofNat (48 + m % 10)).toNat = 48 + m % 10 := by
  rw [UInt8.toNat_ofNat']; omega
theorem qcw : ∀ (m : Nat), (decD m).all isDg = true := by
  intro m
  induction m using Nat.strongRecOn with
  | _ m ih =>
    rw [decD]
    split
    · rfl
    · rw [List.all_append, ih (m / 10) (by omega), List.all_cons, List.all_nil]
      simp only [isDg, qcy, Bool.and_true, Bool.true_and, Bool.and_eq_true, decide_eq_true_eq]; omega
def qf8 (acc : Int) : List UInt8 → Int
  | [] => acc
  | c :: r => cond (isDg c) (qf8 (10 * acc + (c.toNat : Int) - 48) r) (-1)
def l26V (s : List UInt8) : Int := cond (decide (s.length = 0) || decide (12 < s.length)) (-1) (qf8 0 s)
theorem qga : ∀ (x : List UInt8) (acc : Int) (c : UInt8), x.all isDg = true → isDg c = true → qf8 acc (x ++ [c]) = 10 * qf8 acc x + (c.toNat : Int) - 48
  | [], acc, c, h, hc => by simp only [List.nil_append, qf8, hc, qcq]
  | b :: x, acc, c, h, hc => by
    rw [List.all_cons, Bool.and_eq_true] at h
    simp only [List.cons_append, qf8, h.1, qcq]
    exact qga x _ c h.2 hc
theorem qf9 : ∀ (m : Nat), qf8 0 (decD m) = (m : Int) := by
  intro m
  induction m using Nat.strongRecOn with
  | _ m ih =>
    rw [decD]
    split
    · rename_i h; subst h; rfl
    · have d : isDg (UInt8.ofNat (48 + m % 10)) = true := by simp only [isDg, qcy, Bool.and_eq_true, decide_eq_true_eq]; omega
      rw [qga _ _ _ (qcw _) d, ih (m / 10) (by omega), qcy]; omega
theorem qcv : ∀ (x : List UInt8) (acc v : Nat) (c : UInt8), Lib.decFrom acc x = some v → isDg c = true → Lib.decFrom acc (x ++ [c]) = some (v * 10 + (c.toNat - 48))
  | [], acc, v, c, h, hc => by
    simp only [Lib.decFrom, Option.some.injEq] at h
    subst h
    simp only [isDg, Bool.and_eq_true, decide_eq_true_eq] at hc
    simp [Lib.decFrom, Lib.digitVal, hc]
  | b :: x, acc, v, c, h, hc => by
    simp only [List.cons_append, Lib.decFrom] at h ⊢
    split at h
    · exact qcv x _ v c h hc
    · cases h
theorem qcu : ∀ (m : Nat), Lib.decFrom 0 (decD m) = some m := by
  intro m
  induction m using Nat.strongRecOn with
  | _ m ih =>
    rw [decD]
    split
    · rename_i h; subst h; rfl
    · have d : isDg (UInt8.ofNat (48 + m % 10)) = true := by simp only [isDg, qcy, Bool.and_eq_true, decide_eq_true_eq]; omega
      rw [qcv _ _ _ _ (ih (m / 10) (by omega)) d, qcy]; congr 1; omega
theorem qcx {m : Nat} (h : m ≠ 0) : decD m ≠ [] := by
  rw [decD, dif_neg h]; simp
theorem qet {n : Int} (h : 0 ≤ n) : Lib.itoa n = if n.toNat = 0 then [48] else decD n.toNat := by
  unfold Lib.itoa
  rw [if_neg (by omega)]
  split
  · rename_i e; rw [e]; exact Lib.decDigits_one (by omega)
  · rename_i e; exact (qct _ e).symm
theorem qeu {n : Int} (h : 0 ≤ n) : (Lib.itoa n).all isDg = true := by
  rw [qet h]; split
  · rfl
  · exact qcw _
theorem qew {n : Int} (h : 0 ≤ n) : Lib.itoa n ≠ [] := by
  rw [qet h]; split
  · simp
  · rename_i e; exact qcx e
theorem qcz {b : UInt8} (h : isDg b = true) : wdc b = true := by
  simp only [isDg, wdc, Bool.and_eq_true, decide_eq_true_eq] at h ⊢; omega
theorem qey {n : Int} (h : 0 ≤ n) : isWd (Lib.itoa n) = true := by
  unfold isWd
  rw [Bool.and_eq_true]
  refine ⟨by cases e : Lib.itoa n with | nil => exact absurd e (qew h) | cons _ _ => rfl, ?_⟩
  rw [List.all_eq_true]
  intro b hb
  exact qcz (List.all_eq_true.1 (qeu h) b hb)
theorem qev {n : Int} (h : 0 ≤ n ∧ n ≤ 1000000) : l26V (Lib.itoa n) = n := by
  have l : (Lib.itoa n).length ≤ 12 := by
    rw [qet h.1]; split
    · simp
    · rename_i e
      rw [qct _ e, Lib.decDigits_length]
      have := qf1 6 n.toNat (by omega)
      omega
  have ne : (Lib.itoa n).length ≠ 0 := fun e => qew h.1 (List.eq_nil_of_length_eq_zero e)
  unfold l26V
  rw [decide_eq_false ne, decide_eq_false (by omega : ¬ 12 < (Lib.itoa n).length), Bool.or_false, qcp, qet h.1]
  split
  · rename_i e; simp [qf8, isDg]; omega
  · rw [qf9]; omega
theorem qer {n : Int} (h : 0 ≤ n ∧ n ≤ 1000000) : atoiV (Lib.itoa n) = n := by
  have l : (Lib.itoa n).length ≤ 18 := by
    rw [qet h.1]; split
    · simp
    · rename_i e
      rw [qct _ e, Lib.decDigits_length]
      have := qf1 6 n.toNat (by omega)
      omega
  have dn : Lib.decNat (Lib.itoa n) = some n.toNat := by
    have ne := qew h.1
    unfold Lib.decNat
    rw [if_neg (by cases e : Lib.itoa n with | nil => exact absurd e ne | cons _ _ => simp), qet h.1]
    split
    · rename_i e; rw [e]; rfl
    · exact qcu _
  have at1 : Lib.atoi (Lib.itoa n) = some n := by
    have dg := qeu h.1
    cases e : Lib.itoa n with
    | nil => exact absurd e (qew h.1)
    | cons b r =>
      rw [e] at dg dn
      rw [List.all_cons, Bool.and_eq_true] at dg
      have d := dg.1
      simp only [isDg, Bool.and_eq_true, decide_eq_true_eq] at d
      have n1 : (b == 45) = false := by rw [beq_eq_false_iff_ne]; rintro rfl; exact absurd d.1 (by decide)
      have n2 : (b == 43) = false := by rw [beq_eq_false_iff_ne]; rintro rfl; exact absurd d.1 (by decide)
      simp only [Lib.atoi, n1, n2, Bool.false_eq_true, if_false, dn, Option.map_some]
      congr 1; omega
  unfold atoiV
  rw [Lib.atoiAll_short _ l, at1]; rfl
end Go.Proofs.YtjfjniebmdafeaaDoor
end
section
namespace Go.Proofs.YtjfjniebmdafeaaDoor
open Go.Ev
set_option maxRecDepth 20000
abbrev aOk (x : Int × Int × Int × Int) : Bool := qad x.1 x.2.1 x.2.2.1 x.2.2.2
abbrev aL (x : Int × Int × Int × Int) : List UInt8 := actL x.1 x.2.1 x.2.2.1 x.2.2.2
def qem (l : List UInt8) : List Int := l.map fun b => (b.toNat : Int)
theorem qay (l : List UInt8) : bytesL (ba l) = qem l := Eq.trans rfl rfl
theorem qep (a : List UInt8) : (qem a).length = a.length := List.length_map ..
end Go.Proofs.YtjfjniebmdafeaaDoor
end
section
namespace Go.Proofs.YtjfjniebmdafeaaDoor
open Go.Ev
set_option maxRecDepth 20000
def qhb (s : List UInt8) : Bool := decide (s.length ≤ 600) && (s.all okc && decide ((Lib.fields s).length ≤ 24))
theorem qhi (s : List UInt8) (i : Nat) : strAt (ba s) i = ((s.getD i 0).toNat : Int) := Eq.trans rfl rfl
theorem qen (s : List UInt8) (i : Nat) : (qem s).getD i 0 = ((s.getD i 0).toNat : Int) := by
  unfold qem
  rw [List.getD_eq_getElem?_getD, List.getElem?_map, List.getD_eq_getElem?_getD]
  cases s[i]? <;> rfl
theorem qgg (b : UInt8) : okc b = (decide ((32 : Int) ≤ (b.toNat : Int)) && decide ((b.toNat : Int) ≤ 126)) := by
  unfold okc
  congr 1 <;> rw [decide_eq_decide] <;> omega
theorem qa7 (k : Nat) (hk : 2000000 ≤ k) (b : UInt8) : go (k + 1) impl_SplitFields_1 [.int .u8 (b.toNat : Int)] = some [.bool (!okc b)] := by
  rw [qc8, qgg]
  by_cases h1 : (b.toNat : Int) < 32
  · simp (disch := omega) only [qat, nth0, nth1, nth2, nth3, bit, qby, qbz, qca, qcf, qcg, qch, qci, qcj, qck, qcl, qb0, qb1, qb2, qb3, qb4, qb5, qb6, qb7, qb8, qb9, qcb, qcc, qcd, qce, qho, qhn, qhp, qf3, qgo, qgq, qeo, qav, qhk, nI, qcq, qcp, Bool.not_true, Bool.not_false, Bool.and_true, Bool.true_and, Bool.and_false, Bool.false_and, Bool.or_true, Bool.true_or, Bool.or_false, Bool.false_or, beq_self_eq_true, dTT, dFF, dT, dF, bigI, big0, qf2, qhz, qh0, List.length_set, List.length_replicate, Int.toNat_natCast, qbw, qbx, imax, imin]
  · by_cases h2 : (126 : Int) < (b.toNat : Int)
    · simp (disch := omega) only [qat, nth0, nth1, nth2, nth3, bit, qby, qbz, qca, qcf, qcg, qch, qci, qcj, qck, qcl, qb0, qb1, qb2, qb3, qb4, qb5, qb6, qb7, qb8, qb9, qcb, qcc, qcd, qce, qho, qhn, qhp, qf3, qgo, qgq, qeo, qav, qhk, nI, qcq, qcp, Bool.not_true, Bool.not_false, Bool.and_true, Bool.true_and, Bool.and_false, Bool.false_and, Bool.or_true, Bool.true_or, Bool.or_false, Bool.false_or, beq_self_eq_true, dTT, dFF, dT, dF, bigI, big0, qf2, qhz, qh0, List.length_set, List.length_replicate, Int.toNat_natCast, qbw, qbx, imax, imin]
    · simp (disch := omega) only [qat, nth0, nth1, nth2, nth3, bit, qby, qbz, qca, qcf, qcg, qch, qci, qcj, qck, qcl, qb0, qb1, qb2, qb3, qb4, qb5, qb6, qb7, qb8, qb9, qcb, qcc, qcd, qce, qho, qhn, qhp, qf3, qgo, qgq, qeo, qav, qhk, nI, qcq, qcp, Bool.not_true, Bool.not_false, Bool.and_true, Bool.true_and, Bool.and_false, Bool.false_and, Bool.or_true, Bool.true_or, Bool.or_false, Bool.false_or, beq_self_eq_true, dTT, dFF, dT, dF, bigI, big0, qf2, qhz, qh0, List.length_set, List.length_replicate, Int.toNat_natCast, qbw, qbx, imax, imin]
theorem qfm (k : Nat) (hk : 2000000 ≤ k) (fu : List (Nat × Nat)) (z : Bool) (s : List UInt8) (hs : s.length ≤ 600) : ∀ (N i : Nat), i ≤ s.length → s.length - i < N →
    ∃ x, lp (k + 1) slices_IndexFunc_byte_byte [] fu 2 (N) (qgz (s.length : Int) (i : Int) z (qem s)) = some [.int .i64 x] ∧ decide (0 ≤ x) = !(s.drop i).all okc
  | 0, i, hi, hN => by omega
  | N + 1, i, hi, hN => by
    rw [qfa]
    have li := qep s
    by_cases g : i < s.length
    · have c := qa7 k (by omega) (s.getD i 0)
      rw [← qen] at c
      rw [qc0 g 0, List.all_cons]
      cases h : okc (s.getD i 0)
      · rw [h] at c
        refine ⟨(i : Int), ?_, by simp⟩
        simp (disch := omega) only [qat, nth0, nth1, nth2, nth3, bit, qby, qbz, qca, qcf, qcg, qch, qci, qcj, qck, qcl, qb0, qb1, qb2, qb3, qb4, qb5, qb6, qb7, qb8, qb9, qcb, qcc, qcd, qce, qho, qhn, qhp, qf3, qgo, qgq, qeo, qav, qhk, nI, qcq, qcp, Bool.not_true, Bool.not_false, Bool.and_true, Bool.true_and, Bool.and_false, Bool.false_and, Bool.or_true, Bool.true_or, Bool.or_false, Bool.false_or, beq_self_eq_true, dTT, dFF, dT, dF, bigI, big0, qf2, qhz, qh0, List.length_set, List.length_replicate, Int.toNat_natCast, qbw, qbx, imax, imin, li, c]
      · rw [h] at c
        obtain ⟨x, e, hx⟩ := qfm k hk fu z s hs N (i + 1) (by omega) (by omega)
        refine ⟨x, ?_, by rw [Bool.true_and]; exact hx⟩
        simp (disch := omega) only [qat, nth0, nth1, nth2, nth3, bit, qby, qbz, qca, qcf, qcg, qch, qci, qcj, qck, qcl, qb0, qb1, qb2, qb3, qb4, qb5, qb6, qb7, qb8, qb9, qcb, qcc, qcd, qce, qho, qhn, qhp, qf3, qgo, qgq, qeo, qav, qhk, nI, qcq, qcp, Bool.not_true, Bool.not_false, Bool.and_true, Bool.true_and, Bool.and_false, Bool.false_and, Bool.or_true, Bool.true_or, Bool.or_false, Bool.false_or, beq_self_eq_true, dTT, dFF, dT, dF, bigI, big0, qf2, qhz, qh0, List.length_set, List.length_replicate, Int.toNat_natCast, qbw, qbx, imax, imin, li, c]
        exact e
    · rw [List.drop_of_length_le (by omega)]
      refine ⟨-1, ?_, by decide⟩
      simp (disch := omega) only [qat, nth0, nth1, nth2, nth3, bit, qby, qbz, qca, qcf, qcg, qch, qci, qcj, qck, qcl, qb0, qb1, qb2, qb3, qb4, qb5, qb6, qb7, qb8, qb9, qcb, qcc, qcd, qce, qho, qhn, qhp, qf3, qgo, qgq, qeo, qav, qhk, nI, qcq, qcp, Bool.not_true, Bool.not_false, Bool.and_true, Bool.true_and, Bool.and_false, Bool.false_and, Bool.or_true, Bool.true_or, Bool.or_false, Bool.false_or, beq_self_eq_true, dTT, dFF, dT, dF, bigI, big0, qf2, qhz, qh0, List.length_set, List.length_replicate, Int.toNat_natCast, qbw, qbx, imax, imin, li]
theorem qaz (k : Nat) (hk : 2000000 ≤ k) (z : Bool) (s : List UInt8) (hs : s.length ≤ 600) : go (k + 3) slices_ContainsFunc_byte_byte [.arr false z (.ints .u8 (qem s)), .fn impl_SplitFields_1 []] = some [.bool (!s.all okc)] := by
  rw [qdl]
  have e := qdm (k + 1) z (qem s)
  obtain ⟨x, e2, hx⟩ := qfm k hk [] z s hs (k + 1) 0 (by omega) (by omega)
  rw [List.drop_zero] at hx
  rw [qep] at e
  rw [show ((0 : Nat) : Int) = 0 from rfl] at e2
  rw [e2] at e
  simp (disch := omega) only [qat, nth0, nth1, nth2, nth3, bit, qby, qbz, qca, qcf, qcg, qch, qci, qcj, qck, qcl, qb0, qb1, qb2, qb3, qb4, qb5, qb6, qb7, qb8, qb9, qcb, qcc, qcd, qce, qho, qhn, qhp, qf3, qgo, qgq, qeo, qav, qhk, nI, qcq, qcp, Bool.not_true, Bool.not_false, Bool.and_true, Bool.true_and, Bool.and_false, Bool.false_and, Bool.or_true, Bool.true_or, Bool.or_false, Bool.false_or, beq_self_eq_true, dTT, dFF, dT, dF, bigI, big0, qf2, qhz, qh0, List.length_set, List.length_replicate, Int.toNat_natCast, qbw, qbx, imax, imin, e, hx]
theorem qa6 (k : Nat) (hk : 2000000 ≤ k) (s : List UInt8) (hs : s.length ≤ 1048576) : go (k + 4) impl_SplitFields [.str (ba s)] = cond (qhb s) (some [.arr true false (.strs (wordsL s)), .bool true]) (some [.arr true true (.strs []), .bool false]) := by
  rw [qc7]
  have sz := qaq s
  unfold qhb
  by_cases h : s.length ≤ 600
  · have cF := qaz k (by omega) false s h
    have wl : (wordsL s).length = (Lib.fields s).length := List.length_map ..
    have bb := qay s
    cases ha : s.all okc
    · rw [ha] at cF
      simp (disch := omega) only [qat, nth0, nth1, nth2, nth3, bit, qby, qbz, qca, qcf, qcg, qch, qci, qcj, qck, qcl, qb0, qb1, qb2, qb3, qb4, qb5, qb6, qb7, qb8, qb9, qcb, qcc, qcd, qce, qho, qhn, qhp, qf3, qgo, qgq, qeo, qav, qhk, nI, qcq, qcp, Bool.not_true, Bool.not_false, Bool.and_true, Bool.true_and, Bool.and_false, Bool.false_and, Bool.or_true, Bool.true_or, Bool.or_false, Bool.false_or, beq_self_eq_true, dTT, dFF, dT, dF, bigI, big0, qf2, qhz, qh0, List.length_set, List.length_replicate, Int.toNat_natCast, qbw, qbx, imax, imin, sz, bb, cF]
    · rw [ha] at cF
      have h128 : ((ba s).data.toList.all fun b => decide (b.toNat < 128)) = true := by
        rw [qap, List.all_eq_true] at *
        intro b hb
        have := ha b hb
        simp only [okc, Bool.and_eq_true, decide_eq_true_eq] at this ⊢
        omega
      have cW := qbu (k + 2) (ba s) (by rw [sz]; omega) h128
      rw [qap] at cW
      by_cases h24 : (Lib.fields s).length ≤ 24
      · simp (disch := omega) only [qat, nth0, nth1, nth2, nth3, bit, qby, qbz, qca, qcf, qcg, qch, qci, qcj, qck, qcl, qb0, qb1, qb2, qb3, qb4, qb5, qb6, qb7, qb8, qb9, qcb, qcc, qcd, qce, qho, qhn, qhp, qf3, qgo, qgq, qeo, qav, qhk, nI, qcq, qcp, Bool.not_true, Bool.not_false, Bool.and_true, Bool.true_and, Bool.and_false, Bool.false_and, Bool.or_true, Bool.true_or, Bool.or_false, Bool.false_or, beq_self_eq_true, dTT, dFF, dT, dF, bigI, big0, qf2, qhz, qh0, List.length_set, List.length_replicate, Int.toNat_natCast, qbw, qbx, imax, imin, sz, bb, cF, cW, wl]
      · simp (disch := omega) only [qat, nth0, nth1, nth2, nth3, bit, qby, qbz, qca, qcf, qcg, qch, qci, qcj, qck, qcl, qb0, qb1, qb2, qb3, qb4, qb5, qb6, qb7, qb8, qb9, qcb, qcc, qcd, qce, qho, qhn, qhp, qf3, qgo, qgq, qeo, qav, qhk, nI, qcq, qcp, Bool.not_true, Bool.not_false, Bool.and_true, Bool.true_and, Bool.and_false, Bool.false_and, Bool.or_true, Bool.true_or, Bool.or_false, Bool.false_or, beq_self_eq_true, dTT, dFF, dT, dF, bigI, big0, qf2, qhz, qh0, List.length_set, List.length_replicate, Int.toNat_natCast, qbw, qbx, imax, imin, sz, bb, cF, cW, wl]
  · simp (disch := omega) only [qat, nth0, nth1, nth2, nth3, bit, qby, qbz, qca, qcf, qcg, qch, qci, qcj, qck, qcl, qb0, qb1, qb2, qb3, qb4, qb5, qb6, qb7, qb8, qb9, qcb, qcc, qcd, qce, qho, qhn, qhp, qf3, qgo, qgq, qeo, qav, qhk, nI, qcq, qcp, Bool.not_true, Bool.not_false, Bool.and_true, Bool.true_and, Bool.and_false, Bool.false_and, Bool.or_true, Bool.true_or, Bool.or_false, Bool.false_or, beq_self_eq_true, dTT, dFF, dT, dF, bigI, big0, qf2, qhz, qh0, List.length_set, List.length_replicate, Int.toNat_natCast, qbw, qbx, imax, imin, sz]
abbrev baL (l : List (List UInt8)) : List ByteArray := l.map fun w => ⟨w.toArray⟩
theorem qd0 (s : List UInt8) (b i : Nat) : ByteArray.extract (ba s) b i = ba ((s.drop b).take (i - b)) := by
  have h := Lib.extract_data (ba s) b i
  rw [qap] at h
  rw [← Lib.mk_data (ByteArray.extract (ba s) b i), h]
theorem qgw (k : Nat) (hk : 2000000 ≤ k) (fu : List (Nat × Nat)) (s : List UInt8) (hs : s.length ≤ 600) (b : Nat) (N : Nat) (l : List ByteArray) (hl : l = baL (Lib.fields s)) :
    lp k spec_SplitFields [] fu 6 (N + 1) (qg4 (ba s) (b : Int) ((s.length + 1 : Nat) : Int) false l) = cond (decide ((Lib.fields s).length ≤ 24)) (some [.arr true false (.strs (wordsL s)), .bool true]) (some [.arr true false (.strs []), .bool false]) := by
  subst hl
  rw [qff]
  have sz := qaq s
  have wl : (baL (Lib.fields s)).length = (Lib.fields s).length := List.length_map ..
  by_cases h24 : (Lib.fields s).length ≤ 24
  · simp (disch := omega) only [qat, nth0, nth1, nth2, nth3, bit, qby, qbz, qca, qcf, qcg, qch, qci, qcj, qck, qcl, qb0, qb1, qb2, qb3, qb4, qb5, qb6, qb7, qb8, qb9, qcb, qcc, qcd, qce, qho, qhn, qhp, qf3, qgo, qgq, qeo, qav, qhk, nI, qcq, qcp, Bool.not_true, Bool.not_false, Bool.and_true, Bool.true_and, Bool.and_false, Bool.false_and, Bool.or_true, Bool.true_or, Bool.or_false, Bool.false_or, beq_self_eq_true, dTT, dFF, dT, dF, bigI, big0, qf2, qhz, qh0, List.length_set, List.length_replicate, Int.toNat_natCast, qbw, qbx, imax, imin, sz, wl]
    rfl
  · simp (disch := omega) only [qat, nth0, nth1, nth2, nth3, bit, qby, qbz, qca, qcf, qcg, qch, qci, qcj, qck, qcl, qb0, qb1, qb2, qb3, qb4, qb5, qb6, qb7, qb8, qb9, qcb, qcc, qcd, qce, qho, qhn, qhp, qf3, qgo, qgq, qeo, qav, qhk, nI, qcq, qcp, Bool.not_true, Bool.not_false, Bool.and_true, Bool.true_and, Bool.and_false, Bool.false_and, Bool.or_true, Bool.true_or, Bool.or_false, Bool.false_or, beq_self_eq_true, dTT, dFF, dT, dF, bigI, big0, qf2, qhz, qh0, List.length_set, List.length_replicate, Int.toNat_natCast, qbw, qbx, imax, imin, sz, wl]
theorem qfr (k : Nat) (hk : 2000000 ≤ k) (fu : List (Nat × Nat)) (s : List UInt8) (hs : s.length ≤ 600) : ∀ (N i b : Nat) (out : List (List UInt8)), i ≤ s.length → s.length + 1 - i < N → b ≤ i → out ++ Lib.fieldsGo ((s.drop b).take (i - b)) (s.drop i) = Lib.fields s → out.length ≤ i →
    lp k spec_SplitFields [] fu 6 (N) (qg4 (ba s) (b : Int) (i : Int) false (baL out)) = cond ((s.drop i).all okc && decide ((Lib.fields s).length ≤ 24)) (some [.arr true false (.strs (wordsL s)), .bool true]) (some [.arr true false (.strs []), .bool false])
  | 0, i, b, out, hi, hN, hb, he, ho => by omega
  | N + 1, i, b, out, hi, hN, hb, he, ho => by
    rw [qff]
    have sz := qaq s
    have ol : (baL out).length = out.length := List.length_map ..
    have bl : bigLen = 1099511627776 := rfl
    have xe := qd0 s b i
    by_cases g : i < s.length
    · have sa := qhi s i
      rw [qc0 g 0, List.all_cons]
      obtain ⟨c, hc⟩ : ∃ c, s.getD i 0 = c := ⟨_, rfl⟩
      rw [hc] at sa ⊢
      rw [qc0 g 0, hc] at he
      have tk : (s.drop b).take (i + 1 - b) = (s.drop b).take (i - b) ++ [c] := by
        have hl : i - b < (s.drop b).length := by rw [List.length_drop]; omega
        rw [show i + 1 - b = i - b + 1 by omega, List.take_succ_eq_append_getElem hl]
        congr 2
        rw [List.getElem_drop, ← hc]
        simp [List.getD_eq_getElem?_getD, show b + (i - b) = i by omega, g]
      by_cases h1 : (c.toNat : Int) < 32
      · have : okc c = false := by rw [qgg, dF (by omega : ¬ (32 : Int) ≤ (c.toNat : Int))]; rfl
        rw [this]
        simp (disch := omega) only [qat, nth0, nth1, nth2, nth3, bit, qby, qbz, qca, qcf, qcg, qch, qci, qcj, qck, qcl, qb0, qb1, qb2, qb3, qb4, qb5, qb6, qb7, qb8, qb9, qcb, qcc, qcd, qce, qho, qhn, qhp, qf3, qgo, qgq, qeo, qav, qhk, nI, qcq, qcp, Bool.not_true, Bool.not_false, Bool.and_true, Bool.true_and, Bool.and_false, Bool.false_and, Bool.or_true, Bool.true_or, Bool.or_false, Bool.false_or, beq_self_eq_true, dTT, dFF, dT, dF, bigI, big0, qf2, qhz, qh0, List.length_set, List.length_replicate, Int.toNat_natCast, qbw, qbx, imax, imin, sz, sa]
      by_cases h2 : (126 : Int) < (c.toNat : Int)
      · have : okc c = false := by rw [qgg, dF (by omega : ¬ (c.toNat : Int) ≤ 126), Bool.and_false]
        rw [this]
        simp (disch := omega) only [qat, nth0, nth1, nth2, nth3, bit, qby, qbz, qca, qcf, qcg, qch, qci, qcj, qck, qcl, qb0, qb1, qb2, qb3, qb4, qb5, qb6, qb7, qb8, qb9, qcb, qcc, qcd, qce, qho, qhn, qhp, qf3, qgo, qgq, qeo, qav, qhk, nI, qcq, qcp, Bool.not_true, Bool.not_false, Bool.and_true, Bool.true_and, Bool.and_false, Bool.false_and, Bool.or_true, Bool.true_or, Bool.or_false, Bool.false_or, beq_self_eq_true, dTT, dFF, dT, dF, bigI, big0, qf2, qhz, qh0, List.length_set, List.length_replicate, Int.toNat_natCast, qbw, qbx, imax, imin, sz, sa]
      have ok : okc c = true := by rw [qgg, dT (by omega), dT (by omega)]; rfl
      rw [ok, Bool.true_and]
      by_cases h3 : c = 32
      · have c32 : (c.toNat : Int) = 32 := by rw [h3]; rfl
        by_cases h4 : b < i
        · have ne : (s.drop b).take (i - b) ≠ [] := by
            intro e
            have := congrArg List.length e
            rw [List.length_take, List.length_drop, List.length_nil] at this
            omega
          have he2 := he
          rw [h3, Lib.fieldsGo_end _ _ _ qg6 ne] at he2
          have IH := qfr k hk fu s hs N (i + 1) (i + 1) (out ++ [(s.drop b).take (i - b)]) (by omega) (by omega) (by omega) (by rw [Nat.sub_self, List.take_zero, List.append_assoc]; exact he2) (by simp; omega)
          rw [show baL (out ++ [(s.drop b).take (i - b)]) = baL out ++ [ba ((s.drop b).take (i - b))] by simp] at IH
          simp (disch := omega) only [qat, nth0, nth1, nth2, nth3, bit, qby, qbz, qca, qcf, qcg, qch, qci, qcj, qck, qcl, qb0, qb1, qb2, qb3, qb4, qb5, qb6, qb7, qb8, qb9, qcb, qcc, qcd, qce, qho, qhn, qhp, qf3, qgo, qgq, qeo, qav, qhk, nI, qcq, qcp, Bool.not_true, Bool.not_false, Bool.and_true, Bool.true_and, Bool.and_false, Bool.false_and, Bool.or_true, Bool.true_or, Bool.or_false, Bool.false_or, beq_self_eq_true, dTT, dFF, dT, dF, bigI, big0, qf2, qhz, qh0, List.length_set, List.length_replicate, Int.toNat_natCast, qbw, qbx, imax, imin, sz, sa, c32, xe, ol, bl, List.length_append, List.length_cons, List.length_nil]
          exact IH
        · obtain rfl : b = i := by omega
          have he2 := he
          rw [Nat.sub_self, List.take_zero, h3, Lib.fieldsGo_sp _ _ qg6] at he2
          have IH := qfr k hk fu s hs N (b + 1) (b + 1) out (by omega) (by omega) (by omega) (by rw [Nat.sub_self, List.take_zero]; exact he2) (by omega)
          simp (disch := omega) only [qat, nth0, nth1, nth2, nth3, bit, qby, qbz, qca, qcf, qcg, qch, qci, qcj, qck, qcl, qb0, qb1, qb2, qb3, qb4, qb5, qb6, qb7, qb8, qb9, qcb, qcc, qcd, qce, qho, qhn, qhp, qf3, qgo, qgq, qeo, qav, qhk, nI, qcq, qcp, Bool.not_true, Bool.not_false, Bool.and_true, Bool.true_and, Bool.and_false, Bool.false_and, Bool.or_true, Bool.true_or, Bool.or_false, Bool.false_or, beq_self_eq_true, dTT, dFF, dT, dF, bigI, big0, qf2, qhz, qh0, List.length_set, List.length_replicate, Int.toNat_natCast, qbw, qbx, imax, imin, sz, sa, c32]
          exact IH
      · have n32 : ¬ (c.toNat : Int) = 32 := fun e => by
          have h : c.toNat = 32 := by omega
          exact h3 (UInt8.toNat_inj.1 h)
        have he2 := he
        rw [Lib.fieldsGo_more _ _ _ (qg7 (qgh ok h3)), ← tk] at he2
        have IH := qfr k hk fu s hs N (i + 1) b out (by omega) (by omega) (by omega) he2 (by omega)
        simp (disch := omega) only [qat, nth0, nth1, nth2, nth3, bit, qby, qbz, qca, qcf, qcg, qch, qci, qcj, qck, qcl, qb0, qb1, qb2, qb3, qb4, qb5, qb6, qb7, qb8, qb9, qcb, qcc, qcd, qce, qho, qhn, qhp, qf3, qgo, qgq, qeo, qav, qhk, nI, qcq, qcp, Bool.not_true, Bool.not_false, Bool.and_true, Bool.true_and, Bool.and_false, Bool.false_and, Bool.or_true, Bool.true_or, Bool.or_false, Bool.false_or, beq_self_eq_true, dTT, dFF, dT, dF, bigI, big0, qf2, qhz, qh0, List.length_set, List.length_replicate, Int.toNat_natCast, qbw, qbx, imax, imin, sz, sa]
        exact IH
    · obtain rfl : i = s.length := by omega
      rw [List.drop_length] at he ⊢
      rw [List.all_nil, Bool.true_and]
      by_cases h4 : b < s.length
      · have ne : ((s.drop b).take (s.length - b)).isEmpty = false := by
          have : (s.drop b).take (s.length - b) ≠ [] := by
            intro e
            have := congrArg List.length e
            rw [List.length_take, List.length_drop, List.length_nil] at this
            omega
          cases h : (s.drop b).take (s.length - b) with
          | nil => exact absurd h this
          | cons _ _ => rfl
        have he2 : out ++ [(s.drop b).take (s.length - b)] = Lib.fields s := by
          rw [← he]; simp [Lib.fieldsGo, ne]
        have E := qgw k hk fu s hs (s.length + 1) (N - 1) (baL out ++ [ba ((s.drop b).take (s.length - b))]) (by rw [← he2]; simp)
        rw [show N - 1 + 1 = N by omega] at E
        simp (disch := omega) only [qat, nth0, nth1, nth2, nth3, bit, qby, qbz, qca, qcf, qcg, qch, qci, qcj, qck, qcl, qb0, qb1, qb2, qb3, qb4, qb5, qb6, qb7, qb8, qb9, qcb, qcc, qcd, qce, qho, qhn, qhp, qf3, qgo, qgq, qeo, qav, qhk, nI, qcq, qcp, Bool.not_true, Bool.not_false, Bool.and_true, Bool.true_and, Bool.and_false, Bool.false_and, Bool.or_true, Bool.true_or, Bool.or_false, Bool.false_or, beq_self_eq_true, dTT, dFF, dT, dF, bigI, big0, qf2, qhz, qh0, List.length_set, List.length_replicate, Int.toNat_natCast, qbw, qbx, imax, imin, sz, xe, ol, bl, List.length_append, List.length_cons, List.length_nil]
        exact E
      · obtain rfl : b = s.length := by omega
        have he2 : out = Lib.fields s := by
          rw [← he]; simp [Lib.fieldsGo]
        have E := qgw k hk fu s hs (s.length + 1) (N - 1) (baL out) (by rw [← he2])
        rw [show N - 1 + 1 = N by omega] at E
        simp (disch := omega) only [qat, nth0, nth1, nth2, nth3, bit, qby, qbz, qca, qcf, qcg, qch, qci, qcj, qck, qcl, qb0, qb1, qb2, qb3, qb4, qb5, qb6, qb7, qb8, qb9, qcb, qcc, qcd, qce, qho, qhn, qhp, qf3, qgo, qgq, qeo, qav, qhk, nI, qcq, qcp, Bool.not_true, Bool.not_false, Bool.and_true, Bool.true_and, Bool.and_false, Bool.false_and, Bool.or_true, Bool.true_or, Bool.or_false, Bool.false_or, beq_self_eq_true, dTT, dFF, dT, dF, bigI, big0, qf2, qhz, qh0, List.length_set, List.length_replicate, Int.toNat_natCast, qbw, qbx, imax, imin, sz]
        exact E
theorem qbr (k : Nat) (hk : 2000000 ≤ k) (s : List UInt8) (hs : s.length ≤ 1048576) : go (k + 1) spec_SplitFields [.str (ba s)] = cond (qhb s) (some [.arr true false (.strs (wordsL s)), .bool true]) (some [.arr true false (.strs []), .bool false]) := by
  rw [qdt]
  have sz := qaq s
  unfold qhb
  by_cases h : s.length ≤ 600
  · have e := qfr k hk [] s h (k + 0) 0 0 [] (by omega) (by omega) (by omega) (by simp [Lib.fields]) (by simp)
    rw [List.drop_zero, show ((0 : Nat) : Int) = 0 from rfl, show baL [] = [] from rfl] at e
    simp (disch := omega) only [qat, nth0, nth1, nth2, nth3, bit, qby, qbz, qca, qcf, qcg, qch, qci, qcj, qck, qcl, qb0, qb1, qb2, qb3, qb4, qb5, qb6, qb7, qb8, qb9, qcb, qcc, qcd, qce, qho, qhn, qhp, qf3, qgo, qgq, qeo, qav, qhk, nI, qcq, qcp, Bool.not_true, Bool.not_false, Bool.and_true, Bool.true_and, Bool.and_false, Bool.false_and, Bool.or_true, Bool.true_or, Bool.or_false, Bool.false_or, beq_self_eq_true, dTT, dFF, dT, dF, bigI, big0, qf2, qhz, qh0, List.length_set, List.length_replicate, Int.toNat_natCast, qbw, qbx, imax, imin, sz]
    exact e
  · simp (disch := omega) only [qat, nth0, nth1, nth2, nth3, bit, qby, qbz, qca, qcf, qcg, qch, qci, qcj, qck, qcl, qb0, qb1, qb2, qb3, qb4, qb5, qb6, qb7, qb8, qb9, qcb, qcc, qcd, qce, qho, qhn, qhp, qf3, qgo, qgq, qeo, qav, qhk, nI, qcq, qcp, Bool.not_true, Bool.not_false, Bool.and_true, Bool.true_and, Bool.and_false, Bool.false_and, Bool.or_true, Bool.true_or, Bool.or_false, Bool.false_or, beq_self_eq_true, dTT, dFF, dT, dF, bigI, big0, qf2, qhz, qh0, List.length_set, List.length_replicate, Int.toNat_natCast, qbw, qbx, imax, imin, sz]
theorem qfp (k : Nat) (hk : 2000000 ≤ k) (fu : List (Nat × Nat)) (s : List UInt8) (hs : s.length ≤ 12) : ∀ (N i : Nat) (a : Int), i ≤ s.length → s.length - i < N → 0 ≤ a ∧ a < 10 ^ i →
    lp (k + 1) spec_l26Number [] fu 5 (N) (qg5 (ba s) a (i : Int)) = some [.int .i64 (qf8 a (s.drop i))]
  | 0, i, a, hi, hN, ha => by omega
  | N + 1, i, a, hi, hN, ha => by
    rw [qfg]
    have sz := qaq s
    have p : (10 : Int) ^ i ≤ 10 ^ 12 := by exact_mod_cast Nat.pow_le_pow_right (by omega : 0 < 10) (show i ≤ 12 by omega)
    by_cases g : i < s.length
    · have sa := qhi s i
      rw [qc0 g 0, qf8]
      obtain ⟨c, hc⟩ : ∃ c, s.getD i 0 = c := ⟨_, rfl⟩
      rw [hc] at sa ⊢
      have cb := c.toNat_lt
      have wc : IntKind.wrap .i64 (c.toNat : Int) = (c.toNat : Int) := qhz (by omega) (by omega)
      have dg : inR (c.toNat : Int) 48 57 = isDg c := by
        unfold inR isDg
        congr 1 <;> rw [decide_eq_decide] <;> omega
      have cI := qbs k (by omega) (c.toNat : Int) 48 57
      rw [dg] at cI
      cases h : isDg c
      · rw [h] at cI
        simp (disch := omega) only [qat, nth0, nth1, nth2, nth3, bit, qby, qbz, qca, qcf, qcg, qch, qci, qcj, qck, qcl, qb0, qb1, qb2, qb3, qb4, qb5, qb6, qb7, qb8, qb9, qcb, qcc, qcd, qce, qho, qhn, qhp, qf3, qgo, qgq, qeo, qav, qhk, nI, qcq, qcp, Bool.not_true, Bool.not_false, Bool.and_true, Bool.true_and, Bool.and_false, Bool.false_and, Bool.or_true, Bool.true_or, Bool.or_false, Bool.false_or, beq_self_eq_true, dTT, dFF, dT, dF, bigI, big0, qf2, qhz, qh0, List.length_set, List.length_replicate, Int.toNat_natCast, qbw, qbx, imax, imin, sz, sa, wc, cI]
      · rw [h] at cI
        have h' := h
        simp only [isDg, Bool.and_eq_true, decide_eq_true_eq] at h'
        have IH := qfp k hk fu s hs N (i + 1) (10 * a + (c.toNat : Int) - 48) (by omega) (by omega) (by rw [Int.pow_succ]; omega)
        simp (disch := omega) only [qat, nth0, nth1, nth2, nth3, bit, qby, qbz, qca, qcf, qcg, qch, qci, qcj, qck, qcl, qb0, qb1, qb2, qb3, qb4, qb5, qb6, qb7, qb8, qb9, qcb, qcc, qcd, qce, qho, qhn, qhp, qf3, qgo, qgq, qeo, qav, qhk, nI, qcq, qcp, Bool.not_true, Bool.not_false, Bool.and_true, Bool.true_and, Bool.and_false, Bool.false_and, Bool.or_true, Bool.true_or, Bool.or_false, Bool.false_or, beq_self_eq_true, dTT, dFF, dT, dF, bigI, big0, qf2, qhz, qh0, List.length_set, List.length_replicate, Int.toNat_natCast, qbw, qbx, imax, imin, sz, sa, wc, cI]
        exact IH
    · rw [List.drop_of_length_le (by omega)]
      simp (disch := omega) only [qat, nth0, nth1, nth2, nth3, bit, qby, qbz, qca, qcf, qcg, qch, qci, qcj, qck, qcl, qb0, qb1, qb2, qb3, qb4, qb5, qb6, qb7, qb8, qb9, qcb, qcc, qcd, qce, qho, qhn, qhp, qf3, qgo, qgq, qeo, qav, qhk, nI, qcq, qcp, Bool.not_true, Bool.not_false, Bool.and_true, Bool.true_and, Bool.and_false, Bool.false_and, Bool.or_true, Bool.true_or, Bool.or_false, Bool.false_or, beq_self_eq_true, dTT, dFF, dT, dF, bigI, big0, qf2, qhz, qh0, List.length_set, List.length_replicate, Int.toNat_natCast, qbw, qbx, imax, imin, sz]
      rfl
theorem qbt (k : Nat) (hk : 2000000 ≤ k) (s : List UInt8) (hs : s.length ≤ 1048576) : go (k + 2) spec_l26Number [.str (ba s)] = some [.int .i64 (l26V s)] := by
  rw [qdw]
  have sz := qaq s
  unfold l26V
  by_cases h0 : s.length = 0
  · simp (disch := omega) only [qat, nth0, nth1, nth2, nth3, bit, qby, qbz, qca, qcf, qcg, qch, qci, qcj, qck, qcl, qb0, qb1, qb2, qb3, qb4, qb5, qb6, qb7, qb8, qb9, qcb, qcc, qcd, qce, qho, qhn, qhp, qf3, qgo, qgq, qeo, qav, qhk, nI, qcq, qcp, Bool.not_true, Bool.not_false, Bool.and_true, Bool.true_and, Bool.and_false, Bool.false_and, Bool.or_true, Bool.true_or, Bool.or_false, Bool.false_or, beq_self_eq_true, dTT, dFF, dT, dF, bigI, big0, qf2, qhz, qh0, List.length_set, List.length_replicate, Int.toNat_natCast, qbw, qbx, imax, imin, sz]
  by_cases h1 : 12 < s.length
  · simp (disch := omega) only [qat, nth0, nth1, nth2, nth3, bit, qby, qbz, qca, qcf, qcg, qch, qci, qcj, qck, qcl, qb0, qb1, qb2, qb3, qb4, qb5, qb6, qb7, qb8, qb9, qcb, qcc, qcd, qce, qho, qhn, qhp, qf3, qgo, qgq, qeo, qav, qhk, nI, qcq, qcp, Bool.not_true, Bool.not_false, Bool.and_true, Bool.true_and, Bool.and_false, Bool.false_and, Bool.or_true, Bool.true_or, Bool.or_false, Bool.false_or, beq_self_eq_true, dTT, dFF, dT, dF, bigI, big0, qf2, qhz, qh0, List.length_set, List.length_replicate, Int.toNat_natCast, qbw, qbx, imax, imin, sz]
  have e := qfp k hk [] s (by omega) (k + 1) 0 0 (by omega) (by omega) (by simp)
  rw [List.drop_zero, show ((0 : Nat) : Int) = 0 from rfl] at e
  simp (disch := omega) only [qat, nth0, nth1, nth2, nth3, bit, qby, qbz, qca, qcf, qcg, qch, qci, qcj, qck, qcl, qb0, qb1, qb2, qb3, qb4, qb5, qb6, qb7, qb8, qb9, qcb, qcc, qcd, qce, qho, qhn, qhp, qf3, qgo, qgq, qeo, qav, qhk, nI, qcq, qcp, Bool.not_true, Bool.not_false, Bool.and_true, Bool.true_and, Bool.and_false, Bool.false_and, Bool.or_true, Bool.true_or, Bool.or_false, Bool.false_or, beq_self_eq_true, dTT, dFF, dT, dF, bigI, big0, qf2, qhz, qh0, List.length_set, List.length_replicate, Int.toNat_natCast, qbw, qbx, imax, imin, sz]
  exact e
end Go.Proofs.YtjfjniebmdafeaaDoor
end
section
namespace Go.Proofs.YtjfjniebmdafeaaDoor
open Go.Ev
set_option maxRecDepth 20000
abbrev A4 := Int × Int × Int × Int
def awd (a b c d : Int) : List (List UInt8) := if a = 4 ∨ a = 6 ∨ a = 7 then [nmB a, Lib.itoa b, Lib.itoa c, Lib.itoa d] else [nmB a, Lib.itoa b]
theorem qac (a b c d : Int) : actL a b c d = Lib.join (awd a b c d) [32] := by
  unfold actL awd
  split <;> simp [spacedL, Lib.join_cons, Lib.joinTail]
theorem qf6 (a : Int) : isWd (nmB a) = true := by
  unfold nmB
  repeat' split
  all_goals decide
theorem qal {a b c d : Int} (h : qad a b c d = true) : (awd a b c d).all isWd = true := by
  have bd := qae h
  have n := qf6 a
  have i1 := qey bd.2.1.1; have i2 := qey bd.2.2.1.1; have i3 := qey bd.2.2.2.1
  unfold awd
  split <;> simp [n, i1, i2, i3]
theorem qai {a b c d : Int} {ws : List (List UInt8)} (hw : ws.all isWd = true) (h : qad a b c d = true) (e : actL a b c d = Lib.join ws [32]) : ws = awd a b c d := by
  rw [qac] at e
  have := congrArg Lib.fields e
  rw [qd4 _ (qal h), qd4 _ hw] at this
  exact this.symm
theorem qah {a b c d : Int} (h : qad a b c d = true) (n : ¬ (a = 4 ∨ a = 6 ∨ a = 7)) : c = 0 ∧ d = 0 := by
  rcases qag (qaf h) with rfl | rfl | rfl | rfl | rfl | rfl | rfl
  · simp [qad, sgl, inR] at h; omega
  · simp [qad, sgl, inR] at h; omega
  · simp [qad, sgl, inR] at h; omega
  · exact absurd (Or.inl rfl) n
  · simp [qad, sgl, inR] at h; omega
  · exact absurd (Or.inr (Or.inl rfl)) n
  · exact absurd (Or.inr (Or.inr rfl)) n
theorem qf5 {a b : Int} (ha : 1 ≤ a ∧ a ≤ 7) (hb : 1 ≤ b ∧ b ≤ 7) (e : nmB a = nmB b) : a = b := by
  rcases qag ha with rfl | rfl | rfl | rfl | rfl | rfl | rfl <;> rcases qag hb with rfl | rfl | rfl | rfl | rfl | rfl | rfl <;> first | rfl | exact absurd e (by decide)
def fidx (w : ByteArray) : Nat → List ByteArray → Int
  | _, [] => -1
  | i, x :: l => cond (decide (w = x)) (i : Int) (fidx w (i + 1) l)
theorem qfn (k : Nat) (hk : 2000000 ≤ k) (fu : List (Nat × Nat)) (z : Bool) (w : ByteArray) (l : List ByteArray) (hl : l.length ≤ 1000) : ∀ (N i : Nat), i ≤ l.length → l.length - i < N →
    lp k slices_Index_string_string [] fu 2 (N) (qg0 w (l.length : Int) (i : Int) z l) = some [.int .i64 (fidx w i (l.drop i))]
  | 0, i, hi, hN => by omega
  | N + 1, i, hi, hN => by
    rw [qfb]
    by_cases g : i < l.length
    · have IH := qfn k hk fu z w l hl N (i + 1) (by omega) (by omega)
      rw [qc0 g ByteArray.empty, fidx]
      cases h : decide (w = l.getD i ByteArray.empty)
      · simp (disch := omega) only [qat, nth0, nth1, nth2, nth3, bit, qby, qbz, qca, qcf, qcg, qch, qci, qcj, qck, qcl, qb0, qb1, qb2, qb3, qb4, qb5, qb6, qb7, qb8, qb9, qcb, qcc, qcd, qce, qho, qhn, qhp, qf3, qgo, qgq, qeo, qav, qhk, nI, qcq, qcp, Bool.not_true, Bool.not_false, Bool.and_true, Bool.true_and, Bool.and_false, Bool.false_and, Bool.or_true, Bool.true_or, Bool.or_false, Bool.false_or, beq_self_eq_true, dTT, dFF, dT, dF, bigI, big0, qf2, qhz, qh0, List.length_set, List.length_replicate, Int.toNat_natCast, qbw, qbx, imax, imin, h]
        exact IH
      · simp (disch := omega) only [qat, nth0, nth1, nth2, nth3, bit, qby, qbz, qca, qcf, qcg, qch, qci, qcj, qck, qcl, qb0, qb1, qb2, qb3, qb4, qb5, qb6, qb7, qb8, qb9, qcb, qcc, qcd, qce, qho, qhn, qhp, qf3, qgo, qgq, qeo, qav, qhk, nI, qcq, qcp, Bool.not_true, Bool.not_false, Bool.and_true, Bool.true_and, Bool.and_false, Bool.false_and, Bool.or_true, Bool.true_or, Bool.or_false, Bool.false_or, beq_self_eq_true, dTT, dFF, dT, dF, bigI, big0, qf2, qhz, qh0, List.length_set, List.length_replicate, Int.toNat_natCast, qbw, qbx, imax, imin, h]
    · rw [List.drop_of_length_le (by omega)]
      simp (disch := omega) only [qat, nth0, nth1, nth2, nth3, bit, qby, qbz, qca, qcf, qcg, qch, qci, qcj, qck, qcl, qb0, qb1, qb2, qb3, qb4, qb5, qb6, qb7, qb8, qb9, qcb, qcc, qcd, qce, qho, qhn, qhp, qf3, qgo, qgq, qeo, qav, qhk, nI, qcq, qcp, Bool.not_true, Bool.not_false, Bool.and_true, Bool.true_and, Bool.and_false, Bool.false_and, Bool.or_true, Bool.true_or, Bool.or_false, Bool.false_or, beq_self_eq_true, dTT, dFF, dT, dF, bigI, big0, qf2, qhz, qh0, List.length_set, List.length_replicate, Int.toNat_natCast, qbw, qbx, imax, imin]
      rfl
theorem qbj (k : Nat) (hk : 2000000 ≤ k) (z : Bool) (l : List ByteArray) (w : ByteArray) (hl : l.length ≤ 1000) : go (k + 1) slices_Index_string_string [.arr false z (.strs l), .str w] = some [.int .i64 (fidx w 0 l)] := by
  rw [qdn]
  have e := qfn k hk [] z w l hl (k + 0) 0 (by omega) (by omega)
  rw [List.drop_zero, show ((0 : Nat) : Int) = 0 from rfl] at e
  exact e
theorem qd1 {a : Int} (h : 1 ≤ a ∧ a ≤ 7) : fidx (ba (nmB a)) 0 NM = a := by
  rcases qag h with rfl | rfl | rfl | rfl | rfl | rfl | rfl <;> decide
theorem qao {a b : List UInt8} : decide (ba a = ba b) = decide (a = b) := by
  rw [decide_eq_decide]
  constructor
  · intro h; have := congrArg (fun x : ByteArray => x.data.toList) h; exact this
  · intro h; rw [h]
abbrev zD : List D := [.agg [.int .i64 0, .int .i64 0, .int .i64 0, .int .i64 0], .bool false]
abbrev aD (a b c d : Int) : List D := [.agg [.int .i64 a, .int .i64 b, .int .i64 c, .int .i64 d], .bool true]
theorem qei (k : Nat) (hk : 2000000 ≤ k) (fu : List (Nat × Nat)) (z : Bool) (ws : List (List UInt8)) (x3 x4 x5 x6 a b c d : Int) (n N : Nat) (hn : n ≤ 3) (hj : (Lib.join ws [32]).length ≤ 100000) (hl : ws.length ≤ 4) :
    lp (k + 4) impl_ParseAct [] fu 6 (N + 1) (qgy n (n : Int) (n : Int) x3 x4 x5 x6 z (baL ws) a b c d) = cond (qad a b c d && decide (actL a b c d = Lib.join ws [32])) (some (aD a b c d)) (some zD) := by
  rw [qe9]
  have f := qa2 k (by omega) a b c d
  have jl : joinL (baL ws) (ba [32]) = Lib.join ws [32] := by
    unfold joinL baL
    rw [List.map_map, qap]
    congr 1
    conv => rhs; rw [← List.map_id ws]
    rfl
  have j := qbv (k + 3) z (baL ws) (ba [32]) (by rw [jl]; exact hj) (by rw [List.length_map]; omega)
  rw [jl] at j
  have y1' : ({ data := #[(32 : UInt8)] } : ByteArray) = ba [32] := Eq.trans rfl rfl
  cases g : qad a b c d
  · rw [g] at f
    simp (disch := omega) only [qat, nth0, nth1, nth2, nth3, bit, qby, qbz, qca, qcf, qcg, qch, qci, qcj, qck, qcl, qb0, qb1, qb2, qb3, qb4, qb5, qb6, qb7, qb8, qb9, qcb, qcc, qcd, qce, qho, qhn, qhp, qf3, qgo, qgq, qeo, qav, qhk, nI, qcq, qcp, Bool.not_true, Bool.not_false, Bool.and_true, Bool.true_and, Bool.and_false, Bool.false_and, Bool.or_true, Bool.true_or, Bool.or_false, Bool.false_or, beq_self_eq_true, dTT, dFF, dT, dF, bigI, big0, qf2, qhz, qh0, List.length_set, List.length_replicate, Int.toNat_natCast, qbw, qbx, imax, imin, f]
  · rw [g] at f
    have bi := qao (a := actL a b c d) (b := Lib.join ws [32])
    cases h : decide (actL a b c d = Lib.join ws [32])
    · rw [h] at bi
      simp (disch := omega) only [qat, nth0, nth1, nth2, nth3, bit, qby, qbz, qca, qcf, qcg, qch, qci, qcj, qck, qcl, qb0, qb1, qb2, qb3, qb4, qb5, qb6, qb7, qb8, qb9, qcb, qcc, qcd, qce, qho, qhn, qhp, qf3, qgo, qgq, qeo, qav, qhk, nI, qcq, qcp, Bool.not_true, Bool.not_false, Bool.and_true, Bool.true_and, Bool.and_false, Bool.false_and, Bool.or_true, Bool.true_or, Bool.or_false, Bool.false_or, beq_self_eq_true, dTT, dFF, dT, dF, bigI, big0, qf2, qhz, qh0, List.length_set, List.length_replicate, Int.toNat_natCast, qbw, qbx, imax, imin, f, y1', j, bi]
    · rw [h] at bi
      simp (disch := omega) only [qat, nth0, nth1, nth2, nth3, bit, qby, qbz, qca, qcf, qcg, qch, qci, qcj, qck, qcl, qb0, qb1, qb2, qb3, qb4, qb5, qb6, qb7, qb8, qb9, qcb, qcc, qcd, qce, qho, qhn, qhp, qf3, qgo, qgq, qeo, qav, qhk, nI, qcq, qcp, Bool.not_true, Bool.not_false, Bool.and_true, Bool.true_and, Bool.and_false, Bool.false_and, Bool.or_true, Bool.true_or, Bool.or_false, Bool.false_or, beq_self_eq_true, dTT, dFF, dT, dF, bigI, big0, qf2, qhz, qh0, List.length_set, List.length_replicate, Int.toNat_natCast, qbw, qbx, imax, imin, f, y1', j, bi]
theorem qam (ws : List (List UInt8)) (i : Nat) : (baL ws).getD i ByteArray.empty = ba (ws.getD i []) := by
  unfold baL
  rw [List.getD_eq_getElem?_getD, List.getElem?_map, List.getD_eq_getElem?_getD]
  cases ws[i]? <;> rfl
theorem qej (k : Nat) (hk : 2000000 ≤ k) (fu : List (Nat × Nat)) (z : Bool) (ws : List (List UInt8)) (x3 x4 x5 x6 a b c d : Int) (n i N : Nat) (hi : i < n) (hn : n ≤ 3) (hl : ws.length = n + 1) (hw : ∀ w ∈ ws, w.length ≤ 1000) :
    lp (k + 4) impl_ParseAct [] fu 6 (N + 1) (qgy n (n : Int) (i : Int) x3 x4 x5 x6 z (baL ws) a b c d) = lp (k + 4) impl_ParseAct [] fu 6 (N) (qgy n (n : Int) ((i + 1 : Nat) : Int) x3 x4 x5 x6 z (baL ws) a (if i = 0 then atoiV (ws.getD (i + 1) []) else b) (if i = 1 then atoiV (ws.getD (i + 1) []) else c) (if i = 2 then atoiV (ws.getD (i + 1) []) else d)) := by
  rw [qe9]
  have bl : (baL ws).length = ws.length := List.length_map ..
  have ba1 := qam ws (i + 1)
  have wl : (ws.getD (i + 1) []).length ≤ 1000 := by
    by_cases h : i + 1 < ws.length
    · exact hw _ (qef h [])
    · rw [qee (by omega)]; simp
  have p := qbf (k + 3) (ba (ws.getD (i + 1) [])) (by rw [qaq]; exact wl)
  rw [qap] at p
  have : i = 0 ∨ i = 1 ∨ i = 2 := by omega
  rcases this with rfl | rfl | rfl
  · have b2 : Nat.beq 0 2 = false := rfl
    have b1 : Nat.beq 0 1 = false := rfl
    have b0 : Nat.beq 0 0 = true := rfl
    simp (disch := omega) only [qat, nth0, nth1, nth2, nth3, bit, qby, qbz, qca, qcf, qcg, qch, qci, qcj, qck, qcl, qb0, qb1, qb2, qb3, qb4, qb5, qb6, qb7, qb8, qb9, qcb, qcc, qcd, qce, qho, qhn, qhp, qf3, qgo, qgq, qeo, qav, qhk, nI, qcq, qcp, Bool.not_true, Bool.not_false, Bool.and_true, Bool.true_and, Bool.and_false, Bool.false_and, Bool.or_true, Bool.true_or, Bool.or_false, Bool.false_or, beq_self_eq_true, dTT, dFF, dT, dF, bigI, big0, qf2, qhz, qh0, List.length_set, List.length_replicate, Int.toNat_natCast, qbw, qbx, imax, imin, bl, ba1, p, b0, b1, b2]
    rfl
  · have b2 : Nat.beq 1 2 = false := rfl
    have b1 : Nat.beq 1 1 = true := rfl
    simp (disch := omega) only [qat, nth0, nth1, nth2, nth3, bit, qby, qbz, qca, qcf, qcg, qch, qci, qcj, qck, qcl, qb0, qb1, qb2, qb3, qb4, qb5, qb6, qb7, qb8, qb9, qcb, qcc, qcd, qce, qho, qhn, qhp, qf3, qgo, qgq, qeo, qav, qhk, nI, qcq, qcp, Bool.not_true, Bool.not_false, Bool.and_true, Bool.true_and, Bool.and_false, Bool.false_and, Bool.or_true, Bool.true_or, Bool.or_false, Bool.false_or, beq_self_eq_true, dTT, dFF, dT, dF, bigI, big0, qf2, qhz, qh0, List.length_set, List.length_replicate, Int.toNat_natCast, qbw, qbx, imax, imin, bl, ba1, p, b1, b2]
    rfl
  · have b2 : Nat.beq 2 2 = true := rfl
    simp (disch := omega) only [qat, nth0, nth1, nth2, nth3, bit, qby, qbz, qca, qcf, qcg, qch, qci, qcj, qck, qcl, qb0, qb1, qb2, qb3, qb4, qb5, qb6, qb7, qb8, qb9, qcb, qcc, qcd, qce, qho, qhn, qhp, qf3, qgo, qgq, qeo, qav, qhk, nI, qcq, qcp, Bool.not_true, Bool.not_false, Bool.and_true, Bool.true_and, Bool.and_false, Bool.false_and, Bool.or_true, Bool.true_or, Bool.or_false, Bool.false_or, beq_self_eq_true, dTT, dFF, dT, dF, bigI, big0, qf2, qhz, qh0, List.length_set, List.length_replicate, Int.toNat_natCast, qbw, qbx, imax, imin, bl, ba1, p, b2]
    rfl
def vAt (f : List UInt8 → Int) (r : List (List UInt8)) (i : Nat) : Int := (r.map f ++ [0, 0]).getD i 0
theorem qeh (k : Nat) (hk : 2000000 ≤ k) (fu : List (Nat × Nat)) (z : Bool) (x : List UInt8) (r : List (List UInt8)) (x3 x4 x5 x6 a : Int) (N : Nat) (hr : 1 ≤ r.length ∧ r.length ≤ 3) (hw : ∀ w ∈ x :: r, w.length ≤ 1000) (hj : (Lib.join (x :: r) [32]).length ≤ 100000) :
    lp (k + 4) impl_ParseAct [] fu 6 (N + 4) (qgy r.length (r.length : Int) ((0 : Nat) : Int) x3 x4 x5 x6 z (baL (x :: r)) a 0 0 0) = cond (qad a (vAt atoiV r 0) (vAt atoiV r 1) (vAt atoiV r 2) && decide (actL a (vAt atoiV r 0) (vAt atoiV r 1) (vAt atoiV r 2) = Lib.join (x :: r) [32])) (some (aD a (vAt atoiV r 0) (vAt atoiV r 1) (vAt atoiV r 2))) (some zD) := by
  match r, hr, hw, hj with
  | [], hr, hw, hj => simp at hr
  | [w1], hr, hw, hj =>
    rw [qej k hk fu z [x, w1] x3 x4 x5 x6 a 0 0 0 [w1].length 0 (N + 3) (by simp) (by simp) rfl hw]
    exact qei k hk fu z [x, w1] x3 x4 x5 x6 a _ _ _ [w1].length (N + 2) (by simp) hj (by simp)
  | [w1, w2], hr, hw, hj =>
    rw [qej k hk fu z [x, w1, w2] x3 x4 x5 x6 a 0 0 0 [w1, w2].length 0 (N + 3) (by simp) (by simp) rfl hw, qej k hk fu z [x, w1, w2] x3 x4 x5 x6 a _ _ _ [w1, w2].length 1 (N + 2) (by simp) (by simp) rfl hw]
    exact qei k hk fu z [x, w1, w2] x3 x4 x5 x6 a _ _ _ [w1, w2].length (N + 1) (by simp) hj (by simp)
  | [w1, w2, w3], hr, hw, hj =>
    rw [qej k hk fu z [x, w1, w2, w3] x3 x4 x5 x6 a 0 0 0 [w1, w2, w3].length 0 (N + 3) (by simp) (by simp) rfl hw, qej k hk fu z [x, w1, w2, w3] x3 x4 x5 x6 a _ _ _ [w1, w2, w3].length 1 (N + 2) (by simp) (by simp) rfl hw, qej k hk fu z [x, w1, w2, w3] x3 x4 x5 x6 a _ _ _ [w1, w2, w3].length 2 (N + 1) (by simp) (by simp) rfl hw]
    exact qei k hk fu z [x, w1, w2, w3] x3 x4 x5 x6 a _ _ _ [w1, w2, w3].length N (by simp) hj (by simp)
  | _ :: _ :: _ :: _ :: _, hr, hw, hj => simp at hr
theorem qgu (k : Nat) (hk : 2000000 ≤ k) (fu : List (Nat × Nat)) (J : List UInt8) (x2 x3 x4 x5 : Int) (L : List Int) (hL : 3 ≤ L.length ∧ L.length ≤ 10) (q : Nat) (hq : q ≤ 7) (ok : qad q (L.getD 0 0) (L.getD 1 0) (L.getD 2 0) = true) (e : actL q (L.getD 0 0) (L.getD 1 0) (L.getD 2 0) = J) :
    ∀ (N i : Nat), 1 ≤ i → i ≤ q → q - i < N → (∀ j : Nat, i ≤ j → j < q → ¬ (qad j (L.getD 0 0) (L.getD 1 0) (L.getD 2 0) = true ∧ actL j (L.getD 0 0) (L.getD 1 0) (L.getD 2 0) = J)) →
    lp (k + 4) spec_ParseAct [] fu 13 (N) (qg2 (ba J) (i : Int) x2 x3 x4 x5 false L) = some (aD q (L.getD 0 0) (L.getD 1 0) (L.getD 2 0))
  | 0, i, h1, hi, hN, hno => by omega
  | N + 1, i, h1, hi, hN, hno => by
    rw [qfd]
    have t2 : Int.toNat 2 = 2 := rfl
    have t1 : Int.toNat 1 = 1 := rfl
    have t0 : Int.toNat 0 = 0 := rfl
    have f := qbo k (by omega) i (L.getD 0 0) (L.getD 1 0) (L.getD 2 0)
    have bi := qao (a := actL i (L.getD 0 0) (L.getD 1 0) (L.getD 2 0)) (b := J)
    by_cases g : i = q
    · subst g
      rw [ok] at f
      rw [decide_eq_true e] at bi
      simp (disch := omega) only [qat, nth0, nth1, nth2, nth3, bit, qby, qbz, qca, qcf, qcg, qch, qci, qcj, qck, qcl, qb0, qb1, qb2, qb3, qb4, qb5, qb6, qb7, qb8, qb9, qcb, qcc, qcd, qce, qho, qhn, qhp, qf3, qgo, qgq, qeo, qav, qhk, nI, qcq, qcp, Bool.not_true, Bool.not_false, Bool.and_true, Bool.true_and, Bool.and_false, Bool.false_and, Bool.or_true, Bool.true_or, Bool.or_false, Bool.false_or, beq_self_eq_true, dTT, dFF, dT, dF, bigI, big0, qf2, qhz, qh0, List.length_set, List.length_replicate, Int.toNat_natCast, qbw, qbx, imax, imin, t0, t1, t2, f, bi]
    · have IH := qgu k hk fu J x2 x3 x4 x5 L hL q hq ok e N (i + 1) (by omega) (by omega) (by omega) (fun j h1 h2 => hno j (by omega) h2)
      have no := hno i (Nat.le_refl _) (by omega)
      cases h : qad i (L.getD 0 0) (L.getD 1 0) (L.getD 2 0)
      · rw [h] at f
        simp (disch := omega) only [qat, nth0, nth1, nth2, nth3, bit, qby, qbz, qca, qcf, qcg, qch, qci, qcj, qck, qcl, qb0, qb1, qb2, qb3, qb4, qb5, qb6, qb7, qb8, qb9, qcb, qcc, qcd, qce, qho, qhn, qhp, qf3, qgo, qgq, qeo, qav, qhk, nI, qcq, qcp, Bool.not_true, Bool.not_false, Bool.and_true, Bool.true_and, Bool.and_false, Bool.false_and, Bool.or_true, Bool.true_or, Bool.or_false, Bool.false_or, beq_self_eq_true, dTT, dFF, dT, dF, bigI, big0, qf2, qhz, qh0, List.length_set, List.length_replicate, Int.toNat_natCast, qbw, qbx, imax, imin, t0, t1, t2, f]
        exact IH
      · rw [h] at f
        rw [decide_eq_false (fun e => no ⟨h, e⟩)] at bi
        simp (disch := omega) only [qat, nth0, nth1, nth2, nth3, bit, qby, qbz, qca, qcf, qcg, qch, qci, qcj, qck, qcl, qb0, qb1, qb2, qb3, qb4, qb5, qb6, qb7, qb8, qb9, qcb, qcc, qcd, qce, qho, qhn, qhp, qf3, qgo, qgq, qeo, qav, qhk, nI, qcq, qcp, Bool.not_true, Bool.not_false, Bool.and_true, Bool.true_and, Bool.and_false, Bool.false_and, Bool.or_true, Bool.true_or, Bool.or_false, Bool.false_or, beq_self_eq_true, dTT, dFF, dT, dF, bigI, big0, qf2, qhz, qh0, List.length_set, List.length_replicate, Int.toNat_natCast, qbw, qbx, imax, imin, t0, t1, t2, f, bi]
        exact IH
theorem qgv (k : Nat) (hk : 2000000 ≤ k) (fu : List (Nat × Nat)) (J : List UInt8) (x2 x3 x4 x5 : Int) (L : List Int) (hL : 3 ≤ L.length ∧ L.length ≤ 10) :
    ∀ (N i : Nat), 1 ≤ i → i ≤ 8 → 8 - i < N → (∀ j : Nat, i ≤ j → j ≤ 7 → ¬ (qad j (L.getD 0 0) (L.getD 1 0) (L.getD 2 0) = true ∧ actL j (L.getD 0 0) (L.getD 1 0) (L.getD 2 0) = J)) →
    lp (k + 4) spec_ParseAct [] fu 13 (N) (qg2 (ba J) (i : Int) x2 x3 x4 x5 false L) = some zD
  | 0, i, h1, hi, hN, hno => by omega
  | N + 1, i, h1, hi, hN, hno => by
    rw [qfd]
    have t2 : Int.toNat 2 = 2 := rfl
    have t1 : Int.toNat 1 = 1 := rfl
    have t0 : Int.toNat 0 = 0 := rfl
    by_cases g : i ≤ 7
    · have f := qbo k (by omega) i (L.getD 0 0) (L.getD 1 0) (L.getD 2 0)
      have bi := qao (a := actL i (L.getD 0 0) (L.getD 1 0) (L.getD 2 0)) (b := J)
      have IH := qgv k hk fu J x2 x3 x4 x5 L hL N (i + 1) (by omega) (by omega) (by omega) (fun j h1 h2 => hno j (by omega) h2)
      have no := hno i (Nat.le_refl _) g
      cases h : qad i (L.getD 0 0) (L.getD 1 0) (L.getD 2 0)
      · rw [h] at f
        simp (disch := omega) only [qat, nth0, nth1, nth2, nth3, bit, qby, qbz, qca, qcf, qcg, qch, qci, qcj, qck, qcl, qb0, qb1, qb2, qb3, qb4, qb5, qb6, qb7, qb8, qb9, qcb, qcc, qcd, qce, qho, qhn, qhp, qf3, qgo, qgq, qeo, qav, qhk, nI, qcq, qcp, Bool.not_true, Bool.not_false, Bool.and_true, Bool.true_and, Bool.and_false, Bool.false_and, Bool.or_true, Bool.true_or, Bool.or_false, Bool.false_or, beq_self_eq_true, dTT, dFF, dT, dF, bigI, big0, qf2, qhz, qh0, List.length_set, List.length_replicate, Int.toNat_natCast, qbw, qbx, imax, imin, t0, t1, t2, f]
        exact IH
      · rw [h] at f
        rw [decide_eq_false (fun e => no ⟨h, e⟩)] at bi
        simp (disch := omega) only [qat, nth0, nth1, nth2, nth3, bit, qby, qbz, qca, qcf, qcg, qch, qci, qcj, qck, qcl, qb0, qb1, qb2, qb3, qb4, qb5, qb6, qb7, qb8, qb9, qcb, qcc, qcd, qce, qho, qhn, qhp, qf3, qgo, qgq, qeo, qav, qhk, nI, qcq, qcp, Bool.not_true, Bool.not_false, Bool.and_true, Bool.true_and, Bool.and_false, Bool.false_and, Bool.or_true, Bool.true_or, Bool.or_false, Bool.false_or, beq_self_eq_true, dTT, dFF, dT, dF, bigI, big0, qf2, qhz, qh0, List.length_set, List.length_replicate, Int.toNat_natCast, qbw, qbx, imax, imin, t0, t1, t2, f, bi]
        exact IH
    · simp (disch := omega) only [qat, nth0, nth1, nth2, nth3, bit, qby, qbz, qca, qcf, qcg, qch, qci, qcj, qck, qcl, qb0, qb1, qb2, qb3, qb4, qb5, qb6, qb7, qb8, qb9, qcb, qcc, qcd, qce, qho, qhn, qhp, qf3, qgo, qgq, qeo, qav, qhk, nI, qcq, qcp, Bool.not_true, Bool.not_false, Bool.and_true, Bool.true_and, Bool.and_false, Bool.false_and, Bool.or_true, Bool.true_or, Bool.or_false, Bool.false_or, beq_self_eq_true, dTT, dFF, dT, dF, bigI, big0, qf2, qhz, qh0, List.length_set, List.length_replicate, Int.toNat_natCast, qbw, qbx, imax, imin]
theorem qfq (k : Nat) (hk : 2000000 ≤ k) (fu : List (Nat × Nat)) (x : List UInt8) (r : List (List UInt8)) (x2 x3 x4 x5 : Int) (z : Bool) (hr : r.length ≤ 3) (hw : ∀ w ∈ x :: r, w.length ≤ 1000) : ∀ (N j : Nat), j ≤ r.length → r.length - j < N →
    lp (k + 4) spec_ParseAct [] fu 7 (N) (qg3 (ba (x ++ Lib.joinTail [32] (r.take j))) ((j + 1 : Nat) : Int) x2 x3 x4 x5 z (baL (x :: r)) false ((r.take j).map l26V)) = lp (k + 4) spec_ParseAct [] fu 13 (k + 4) (qg2 (ba (Lib.join (x :: r) [32])) 1 x2 x3 x4 x5 false (r.map l26V ++ [0, 0]))
  | 0, j, hj, hN => by omega
  | N + 1, j, hj, hN => by
    rw [qfe]
    have bl : (baL (x :: r)).length = r.length + 1 := by simp
    have ml : ((r.take j).map l26V).length = j := by rw [List.length_map, List.length_take]; omega
    have bg : bigLen = 1099511627776 := rfl
    have y1' : ({ data := #[(32 : UInt8)] } : ByteArray) = ba [32] := Eq.trans rfl rfl
    have tl : (Lib.joinTail [32] (r.take j)).length ≤ 1001 * j := by
      have : ∀ (l : List (List UInt8)), (∀ w ∈ l, w.length ≤ 1000) → (Lib.joinTail [32] l).length ≤ 1001 * l.length := by
        intro l
        induction l with
        | nil => intro _; simp [Lib.joinTail]
        | cons a l ih =>
          intro h
          have e : Lib.joinTail [32] (a :: l) = 32 :: (a ++ Lib.joinTail [32] l) := by simp [Lib.joinTail]
          have := ih (fun w hw => h w (List.mem_cons_of_mem _ hw))
          have := h a List.mem_cons_self
          rw [e]; simp only [List.length_cons, List.length_append]; omega
      have h := this (r.take j) (fun w hw' => hw w (List.mem_cons_of_mem _ (List.mem_of_mem_take hw')))
      rw [List.length_take] at h
      exact Nat.le_trans h (by omega)
    have xl := hw x List.mem_cons_self
    by_cases g : j < r.length
    · have IH := qfq k hk fu x r x2 x3 x4 x5 z hr hw N (j + 1) (by omega) (by omega)
      have ba1 : (baL (x :: r)).getD (j + 1) ByteArray.empty = ba (r.getD j []) := by rw [qam]; rfl
      have wl := hw _ (List.mem_cons_of_mem _ (qef g []))
      have cN := qbt (k + 2) (by omega) (r.getD j []) (by omega)
      have hy : r[j]? = some (r.getD j []) := by simp [List.getD_eq_getElem?_getD, g]
      have e1 : ba (x ++ Lib.joinTail [32] (r.take j)) ++ ba [32] ++ ba (r.getD j []) = ba (x ++ Lib.joinTail [32] (r.take (j + 1))) := by
        rw [Lib.joinTail_take_succ _ _ _ _ hy, qan, qan]; simp
      have e2 : (r.take j).map l26V ++ [l26V (r.getD j [])] = (r.take (j + 1)).map l26V := by
        rw [List.take_add_one, hy]; simp
      have s0 := qaq (x ++ Lib.joinTail [32] (r.take j)); have s1 := qaq [32]; have s2 := qaq (r.getD j [])
      have s3 := qaq (x ++ Lib.joinTail [32] (r.take j) ++ [32])
      have ap := qan (x ++ Lib.joinTail [32] (r.take j)) [32]
      have ap2 := qan (x ++ Lib.joinTail [32] (r.take j) ++ [32]) (r.getD j [])
      rw [ap, ap2] at e1
      simp only [List.length_append, List.length_cons, List.length_nil] at s0 s1 s3
      simp (disch := omega) only [qat, nth0, nth1, nth2, nth3, bit, qby, qbz, qca, qcf, qcg, qch, qci, qcj, qck, qcl, qb0, qb1, qb2, qb3, qb4, qb5, qb6, qb7, qb8, qb9, qcb, qcc, qcd, qce, qho, qhn, qhp, qf3, qgo, qgq, qeo, qav, qhk, nI, qcq, qcp, Bool.not_true, Bool.not_false, Bool.and_true, Bool.true_and, Bool.and_false, Bool.false_and, Bool.or_true, Bool.true_or, Bool.or_false, Bool.false_or, beq_self_eq_true, dTT, dFF, dT, dF, bigI, big0, qf2, qhz, qh0, List.length_set, List.length_replicate, Int.toNat_natCast, qbw, qbx, imax, imin, bl, ml, bg, y1', ba1, cN, s0, s1, s2, s3, ap, ap2, e1, e2, List.length_append, List.length_cons, List.length_nil]
      exact IH
    · obtain rfl : j = r.length := by omega
      rw [List.take_length, ← Lib.join_cons]
      rw [List.take_length] at ml
      simp (disch := omega) only [qat, nth0, nth1, nth2, nth3, bit, qby, qbz, qca, qcf, qcg, qch, qci, qcj, qck, qcl, qb0, qb1, qb2, qb3, qb4, qb5, qb6, qb7, qb8, qb9, qcb, qcc, qcd, qce, qho, qhn, qhp, qf3, qgo, qgq, qeo, qav, qhk, nI, qcq, qcp, Bool.not_true, Bool.not_false, Bool.and_true, Bool.true_and, Bool.and_false, Bool.false_and, Bool.or_true, Bool.true_or, Bool.or_false, Bool.false_or, beq_self_eq_true, dTT, dFF, dT, dF, bigI, big0, qf2, qhz, qh0, List.length_set, List.length_replicate, Int.toNat_natCast, qbw, qbx, imax, imin, bl, ml, bg, List.length_append, List.length_cons, List.length_nil]
theorem qaj (k : Nat) (hk : 2000000 ≤ k) (J : List UInt8) (x2 x3 x4 x5 : Int) (L : List Int) (hL : 3 ≤ L.length ∧ L.length ≤ 10) (fu : List (Nat × Nat)) (N : Nat) (hN : 10 ≤ N) :
    (∀ q : Int, qad q (L.getD 0 0) (L.getD 1 0) (L.getD 2 0) = true → actL q (L.getD 0 0) (L.getD 1 0) (L.getD 2 0) = J → (∀ q' : Int, qad q' (L.getD 0 0) (L.getD 1 0) (L.getD 2 0) = true → actL q' (L.getD 0 0) (L.getD 1 0) (L.getD 2 0) = J → q' = q) → lp (k + 4) spec_ParseAct [] fu 13 (N) (qg2 (ba J) 1 x2 x3 x4 x5 false L) = some (aD q (L.getD 0 0) (L.getD 1 0) (L.getD 2 0))) ∧
    ((∀ q : Int, ¬ (qad q (L.getD 0 0) (L.getD 1 0) (L.getD 2 0) = true ∧ actL q (L.getD 0 0) (L.getD 1 0) (L.getD 2 0) = J)) → lp (k + 4) spec_ParseAct [] fu 13 (N) (qg2 (ba J) 1 x2 x3 x4 x5 false L) = some zD) := by
  constructor
  · intro q ok e uq
    have bd := qaf ok
    obtain ⟨n, rfl⟩ : ∃ n : Nat, q = (n : Int) := ⟨q.toNat, by omega⟩
    exact qgu k hk fu J x2 x3 x4 x5 L hL n (by omega) ok e N 1 (by omega) (by omega) (by omega) (fun j h1 h2 h => by have := uq j h.1 h.2; omega)
  · intro no
    exact qgv k hk fu J x2 x3 x4 x5 L hL N 1 (by omega) (by omega) (by omega) (fun j _ _ h => no j h)
end Go.Proofs.YtjfjniebmdafeaaDoor
end
section
namespace Go.Proofs.YtjfjniebmdafeaaDoor
open Go.Ev
set_option maxRecDepth 20000
def qfk (s : List UInt8) : Prop := qhb s = true ∧ 2 ≤ (Lib.fields s).length ∧ (Lib.fields s).length ≤ 4
def qfj (s : List UInt8) (x : A4) : Prop := aOk x = true ∧ aL x = Lib.join (Lib.fields s) [32]
open Classical in
noncomputable def prsA (s : List UInt8) : Option A4 := if h : qfk s ∧ ∃ x, qfj s x then some h.2.choose else none
def prsD : Option A4 → List D
  | some x => aD x.1 x.2.1 x.2.2.1 x.2.2.2
  | none => zD
theorem qfl {s : List UInt8} (h : qhb s = true) : s.length ≤ 600 ∧ (Lib.fields s).all isWd = true ∧ (∀ w ∈ Lib.fields s, w.length ≤ 600) := by
  simp only [qhb, Bool.and_eq_true, decide_eq_true_eq] at h
  exact ⟨h.1, qd8 h.2.1, fun w hw => Nat.le_trans (qd6 hw) h.1⟩
theorem qez : ∀ (ws : List (List UInt8)), (∀ w ∈ ws, w.length ≤ 600) → (Lib.join ws [32]).length ≤ 601 * ws.length := by
  intro ws
  cases ws with
  | nil => intro _; simp [Lib.join_nil]
  | cons x r =>
    intro h
    have : ∀ (l : List (List UInt8)), (∀ w ∈ l, w.length ≤ 600) → (Lib.joinTail [32] l).length ≤ 601 * l.length := by
      intro l
      induction l with
      | nil => intro _; simp [Lib.joinTail]
      | cons a l ih =>
        intro h
        have e : Lib.joinTail [32] (a :: l) = 32 :: (a ++ Lib.joinTail [32] l) := by simp [Lib.joinTail]
        have := ih (fun w hw => h w (List.mem_cons_of_mem _ hw))
        have := h a List.mem_cons_self
        rw [e]; simp only [List.length_cons, List.length_append]; omega
    have h1 := this r (fun w hw => h w (List.mem_cons_of_mem _ hw))
    have h2 := h x List.mem_cons_self
    rw [Lib.join_cons, List.length_append, List.length_cons]; omega
theorem qhr {a b c d : Int} {f : List UInt8 → Int} (hf : ∀ n : Int, 0 ≤ n ∧ n ≤ 1000000 → f (Lib.itoa n) = n) (h : qad a b c d = true) {x : List UInt8} {r : List (List UInt8)} (e : x :: r = awd a b c d) : x = nmB a ∧ vAt f r 0 = b ∧ vAt f r 1 = c ∧ vAt f r 2 = d := by
  have bd := qae h
  have e1 := hf b bd.2.1; have e2 := hf c bd.2.2.1; have e3 := hf d bd.2.2.2
  unfold awd at e
  split at e
  · cases e
    simp [vAt, e1, e2, e3]
  · rename_i n
    have s := qah h n
    cases e
    simp [vAt, e1, s.1, s.2]
theorem qcm : Nat.beq (Tryd.prog.cellsOf 103) 1 = true := by kernel_rfl
theorem qa5 (k : Nat) (hk : 2000000 ≤ k) (s : List UInt8) (hs : s.length ≤ 1048576) : go (k + 5) impl_ParseAct [.str (ba s)] = some (prsD (prsA s)) := by
  rw [qc6, qcm]
  have eS := qa6 k (by omega) s hs
  have wl : (wordsL s).length = (Lib.fields s).length := List.length_map ..
  cases g : qhb s
  · rw [g] at eS
    have : prsA s = none := dif_neg (fun h => by have := h.1.1; rw [g] at this; cases this)
    rw [this]
    simp (disch := omega) only [qat, nth0, nth1, nth2, nth3, bit, qby, qbz, qca, qcf, qcg, qch, qci, qcj, qck, qcl, qb0, qb1, qb2, qb3, qb4, qb5, qb6, qb7, qb8, qb9, qcb, qcc, qcd, qce, qho, qhn, qhp, qf3, qgo, qgq, qeo, qav, qhk, nI, qcq, qcp, Bool.not_true, Bool.not_false, Bool.and_true, Bool.true_and, Bool.and_false, Bool.false_and, Bool.or_true, Bool.true_or, Bool.or_false, Bool.false_or, beq_self_eq_true, dTT, dFF, dT, dF, bigI, big0, qf2, qhz, qh0, List.length_set, List.length_replicate, Int.toNat_natCast, qbw, qbx, imax, imin, eS]
    rfl
  rw [g] at eS
  obtain ⟨h600, hwd, hwl⟩ := qfl g
  by_cases h2 : (Lib.fields s).length < 2
  · have : prsA s = none := dif_neg (fun h => by have := h.1.2.1; omega)
    rw [this]
    simp (disch := omega) only [qat, nth0, nth1, nth2, nth3, bit, qby, qbz, qca, qcf, qcg, qch, qci, qcj, qck, qcl, qb0, qb1, qb2, qb3, qb4, qb5, qb6, qb7, qb8, qb9, qcb, qcc, qcd, qce, qho, qhn, qhp, qf3, qgo, qgq, qeo, qav, qhk, nI, qcq, qcp, Bool.not_true, Bool.not_false, Bool.and_true, Bool.true_and, Bool.and_false, Bool.false_and, Bool.or_true, Bool.true_or, Bool.or_false, Bool.false_or, beq_self_eq_true, dTT, dFF, dT, dF, bigI, big0, qf2, qhz, qh0, List.length_set, List.length_replicate, Int.toNat_natCast, qbw, qbx, imax, imin, eS, wl]
    rfl
  by_cases h4 : 4 < (Lib.fields s).length
  · have : prsA s = none := dif_neg (fun h => by have := h.1.2.2; omega)
    rw [this]
    simp (disch := omega) only [qat, nth0, nth1, nth2, nth3, bit, qby, qbz, qca, qcf, qcg, qch, qci, qcj, qck, qcl, qb0, qb1, qb2, qb3, qb4, qb5, qb6, qb7, qb8, qb9, qcb, qcc, qcd, qce, qho, qhn, qhp, qf3, qgo, qgq, qeo, qav, qhk, nI, qcq, qcp, Bool.not_true, Bool.not_false, Bool.and_true, Bool.true_and, Bool.and_false, Bool.false_and, Bool.or_true, Bool.true_or, Bool.or_false, Bool.false_or, beq_self_eq_true, dTT, dFF, dT, dF, bigI, big0, qf2, qhz, qh0, List.length_set, List.length_replicate, Int.toNat_natCast, qbw, qbx, imax, imin, eS, wl]
    rfl
  obtain ⟨x, r, hx⟩ : ∃ x r, Lib.fields s = x :: r := by
    cases h : Lib.fields s with
    | nil => rw [h] at h2; simp at h2
    | cons x r => exact ⟨x, r, rfl⟩
  have hw : wordsL s = baL (x :: r) := by unfold wordsL; rw [hx]
  have lo : qfk s := ⟨g, by omega, by omega⟩
  have jl := qez _ hwl
  rw [hx] at wl h2 h4 hwd hwl jl
  simp only [List.length_cons] at wl h2 h4 jl
  have e1 : (wordsL s).getD 0 ByteArray.empty = ba x := by rw [hw]; rfl
  have cN := qba (k + 4 - 1)
  rw [show k + 4 - 1 + 1 = k + 4 by omega] at cN
  have cI := qbj (k + 3) (by omega) false NM (ba x) (by rw [qab]; omega)
  have eE := qeh k hk [] false x r 0 0 0 0 (fidx (ba x) 0 NM) (k + 4 - 4) (by omega) (fun w hw => by have := hwl w hw; omega) (by omega)
  rw [show k + 4 - 4 + 4 = k + 4 by omega, ← hw, show ((0 : Nat) : Int) = 0 from rfl] at eE
  have t0 : Int.toNat 0 = 0 := rfl
  have fin : cond (qad (fidx (ba x) 0 NM) (vAt atoiV r 0) (vAt atoiV r 1) (vAt atoiV r 2) && decide (actL (fidx (ba x) 0 NM) (vAt atoiV r 0) (vAt atoiV r 1) (vAt atoiV r 2) = Lib.join (x :: r) [32])) (some (aD (fidx (ba x) 0 NM) (vAt atoiV r 0) (vAt atoiV r 1) (vAt atoiV r 2))) (some zD) = some (prsD (prsA s)) := by
    by_cases ex : ∃ y, qfj s y
    · have e : prsA s = some ex.choose := dif_pos ⟨lo, ex⟩
      have hy := ex.choose_spec
      generalize ex.choose = y at e hy
      obtain ⟨a, b, c, d⟩ := y
      obtain ⟨y1, y2⟩ := hy
      rw [hx] at y2
      have hws := qai hwd y1 y2
      obtain ⟨v0, v1, v2, v3⟩ := qhr (f := atoiV) (fun n h => qer h) y1 hws
      rw [e, v0, v1, v2, v3, qd1 (qaf y1), show qad a b c d = true from y1, ← v0, decide_eq_true (show actL a b c d = Lib.join (x :: r) [32] from y2)]
      rfl
    · have e : prsA s = none := dif_neg (fun h => ex h.2)
      rw [e]
      cases c : (qad (fidx (ba x) 0 NM) (vAt atoiV r 0) (vAt atoiV r 1) (vAt atoiV r 2) && decide (actL (fidx (ba x) 0 NM) (vAt atoiV r 0) (vAt atoiV r 1) (vAt atoiV r 2) = Lib.join (x :: r) [32]))
      · rfl
      · simp only [Bool.and_eq_true, decide_eq_true_eq] at c
        exact absurd ⟨(_, _, _, _), c.1, by rw [hx]; exact c.2⟩ ex
  rw [fin] at eE
  simp (disch := omega) only [qat, nth0, nth1, nth2, nth3, bit, qby, qbz, qca, qcf, qcg, qch, qci, qcj, qck, qcl, qb0, qb1, qb2, qb3, qb4, qb5, qb6, qb7, qb8, qb9, qcb, qcc, qcd, qce, qho, qhn, qhp, qf3, qgo, qgq, qeo, qav, qhk, nI, qcq, qcp, Bool.not_true, Bool.not_false, Bool.and_true, Bool.true_and, Bool.and_false, Bool.false_and, Bool.or_true, Bool.true_or, Bool.or_false, Bool.false_or, beq_self_eq_true, dTT, dFF, dT, dF, bigI, big0, qf2, qhz, qh0, List.length_set, List.length_replicate, Int.toNat_natCast, qbw, qbx, imax, imin, eS, wl, t0, e1, cN, cI]
  rw [show ((r.length + 1 : Nat) : Int) - 1 = (r.length : Int) by omega, Int.toNat_natCast]
  exact eE
theorem qbq (k : Nat) (hk : 2000000 ≤ k) (s : List UInt8) (hs : s.length ≤ 1048576) : go (k + 5) spec_ParseAct [.str (ba s)] = some (prsD (prsA s)) := by
  rw [qds]
  have eS := qbr (k + 3) (by omega) s hs
  have wl : (wordsL s).length = (Lib.fields s).length := List.length_map ..
  have cI := qbs (k + 3) (by omega) ((wordsL s).length : Int) 2 4
  cases g : qhb s
  · rw [g] at eS
    have : prsA s = none := dif_neg (fun h => by have := h.1.1; rw [g] at this; cases this)
    rw [this]
    simp (disch := omega) only [qat, nth0, nth1, nth2, nth3, bit, qby, qbz, qca, qcf, qcg, qch, qci, qcj, qck, qcl, qb0, qb1, qb2, qb3, qb4, qb5, qb6, qb7, qb8, qb9, qcb, qcc, qcd, qce, qho, qhn, qhp, qf3, qgo, qgq, qeo, qav, qhk, nI, qcq, qcp, Bool.not_true, Bool.not_false, Bool.and_true, Bool.true_and, Bool.and_false, Bool.false_and, Bool.or_true, Bool.true_or, Bool.or_false, Bool.false_or, beq_self_eq_true, dTT, dFF, dT, dF, bigI, big0, qf2, qhz, qh0, List.length_set, List.length_replicate, Int.toNat_natCast, qbw, qbx, imax, imin, eS]
    rfl
  rw [g] at eS
  obtain ⟨h600, hwd, hwl⟩ := qfl g
  by_cases h24 : 2 ≤ (Lib.fields s).length ∧ (Lib.fields s).length ≤ 4
  case neg =>
    have : prsA s = none := dif_neg (fun h => h24 h.1.2)
    have i0 : inR ((wordsL s).length : Int) 2 4 = false := by
      cases h : inR ((wordsL s).length : Int) 2 4 with
      | false => rfl
      | true => have := qel.1 h; omega
    rw [i0] at cI
    rw [this]
    simp (disch := omega) only [qat, nth0, nth1, nth2, nth3, bit, qby, qbz, qca, qcf, qcg, qch, qci, qcj, qck, qcl, qb0, qb1, qb2, qb3, qb4, qb5, qb6, qb7, qb8, qb9, qcb, qcc, qcd, qce, qho, qhn, qhp, qf3, qgo, qgq, qeo, qav, qhk, nI, qcq, qcp, Bool.not_true, Bool.not_false, Bool.and_true, Bool.true_and, Bool.and_false, Bool.false_and, Bool.or_true, Bool.true_or, Bool.or_false, Bool.false_or, beq_self_eq_true, dTT, dFF, dT, dF, bigI, big0, qf2, qhz, qh0, List.length_set, List.length_replicate, Int.toNat_natCast, qbw, qbx, imax, imin, eS, cI]
    rfl
  have i1 : inR ((wordsL s).length : Int) 2 4 = true := qel.2 (by omega)
  rw [i1] at cI
  obtain ⟨x, r, hx⟩ : ∃ x r, Lib.fields s = x :: r := by
    cases h : Lib.fields s with
    | nil => rw [h] at h24; simp at h24
    | cons x r => exact ⟨x, r, rfl⟩
  have hw : wordsL s = baL (x :: r) := by unfold wordsL; rw [hx]
  have lo : qfk s := ⟨g, h24⟩
  rw [hx] at wl h24 hwd hwl
  simp only [List.length_cons] at wl h24
  have e1 : (wordsL s).getD 0 ByteArray.empty = ba x := by rw [hw]; rfl
  have t0 : Int.toNat 0 = 0 := rfl
  have eE := qfq k hk [] x r 0 0 0 0 false (by omega) (fun w hw => by have := hwl w hw; omega) (k + 4) 0 (by omega) (by omega)
  rw [List.take_zero, List.map_nil, show x ++ Lib.joinTail [32] [] = x by simp [Lib.joinTail], ← hw, show ((0 + 1 : Nat) : Int) = 1 from rfl] at eE
  have sA := qaj k hk (Lib.join (x :: r) [32]) 0 0 0 0 (r.map l26V ++ [0, 0]) (by simp; omega) [] (k + 4) (by omega)
  have fin : lp (k + 4) spec_ParseAct [] [] 13 (k + 4) (qg2 (ba (Lib.join (x :: r) [32])) 1 0 0 0 0 false (r.map l26V ++ [0, 0])) = some (prsD (prsA s)) := by
    by_cases ex : ∃ y, qfj s y
    · have e : prsA s = some ex.choose := dif_pos ⟨lo, ex⟩
      have hy := ex.choose_spec
      generalize ex.choose = y at e hy
      obtain ⟨a, b, c, d⟩ := y
      obtain ⟨y1, y2⟩ := hy
      rw [hx] at y2
      have y1 : qad a b c d = true := y1
      have y2 : actL a b c d = Lib.join (x :: r) [32] := y2
      have hws := qai hwd y1 y2
      obtain ⟨v0, v1, v2, v3⟩ := qhr (f := l26V) (fun n h => qev h) y1 hws
      have v1 : (r.map l26V ++ [0, 0]).getD 0 0 = b := v1
      have v2 : (r.map l26V ++ [0, 0]).getD 1 0 = c := v2
      have v3 : (r.map l26V ++ [0, 0]).getD 2 0 = d := v3
      rw [v1, v2, v3] at sA
      rw [sA.1 a y1 y2 (fun q hq hq2 => by
        have h2 := qai hwd hq hq2
        have := (qhr (f := l26V) (fun n h => qev h) hq h2).1
        rw [v0] at this
        exact (qf5 (qaf y1) (qaf hq) this).symm), e]
      rfl
    · have e : prsA s = none := dif_neg (fun h => ex h.2)
      rw [e]
      exact sA.2 (fun q h => ex ⟨(_, _, _, _), h.1, by rw [hx]; exact h.2⟩)
  rw [fin] at eE
  rw [wl] at cI
  simp (disch := omega) only [qat, nth0, nth1, nth2, nth3, bit, qby, qbz, qca, qcf, qcg, qch, qci, qcj, qck, qcl, qb0, qb1, qb2, qb3, qb4, qb5, qb6, qb7, qb8, qb9, qcb, qcc, qcd, qce, qho, qhn, qhp, qf3, qgo, qgq, qeo, qav, qhk, nI, qcq, qcp, Bool.not_true, Bool.not_false, Bool.and_true, Bool.true_and, Bool.and_false, Bool.false_and, Bool.or_true, Bool.true_or, Bool.or_false, Bool.false_or, beq_self_eq_true, dTT, dFF, dT, dF, bigI, big0, qf2, qhz, qh0, List.length_set, List.length_replicate, Int.toNat_natCast, qbw, qbx, imax, imin, eS, cI, wl, t0, e1]
  exact eE
theorem qbk (k : Nat) (hk : 2000000 ≤ k) (a b c d : Int) : go (k + 1) laws_eqAct [.agg [.int .i64 a, .int .i64 b, .int .i64 c, .int .i64 d], .agg [.int .i64 a, .int .i64 b, .int .i64 c, .int .i64 d]] = some [.bool true] := by
  rw [qdk]
  simp (disch := omega) only [qat, nth0, nth1, nth2, nth3, bit, qby, qbz, qca, qcf, qcg, qch, qci, qcj, qck, qcl, qb0, qb1, qb2, qb3, qb4, qb5, qb6, qb7, qb8, qb9, qcb, qcc, qcd, qce, qho, qhn, qhp, qf3, qgo, qgq, qeo, qav, qhk, nI, qcq, qcp, Bool.not_true, Bool.not_false, Bool.and_true, Bool.true_and, Bool.and_false, Bool.false_and, Bool.or_true, Bool.true_or, Bool.or_false, Bool.false_or, beq_self_eq_true, dTT, dFF, dT, dF, bigI, big0, qf2, qhz, qh0, List.length_set, List.length_replicate, Int.toNat_natCast, qbw, qbx, imax, imin, decide_true]
theorem law_ParseAct (k : Nat) (hk : 2000000 ≤ k) (a : ByteArray) : go (k + 6) laws_FnExactParseAct [(.str (a))] = some [.bool true] := by
  rw [qdj]
  obtain ⟨s, rfl⟩ : ∃ s, a = ba s := ⟨a.data.toList, (Lib.mk_data a).symm⟩
  have sz := qaq s
  by_cases h : (1048576 : Int) < (s.length : Int)
  · simp (disch := omega) only [qat, nth0, nth1, nth2, nth3, bit, qby, qbz, qca, qcf, qcg, qch, qci, qcj, qck, qcl, qb0, qb1, qb2, qb3, qb4, qb5, qb6, qb7, qb8, qb9, qcb, qcc, qcd, qce, qho, qhn, qhp, qf3, qgo, qgq, qeo, qav, qhk, nI, qcq, qcp, Bool.not_true, Bool.not_false, Bool.and_true, Bool.true_and, Bool.and_false, Bool.false_and, Bool.or_true, Bool.true_or, Bool.or_false, Bool.false_or, beq_self_eq_true, dTT, dFF, dT, dF, bigI, big0, qf2, qhz, qh0, List.length_set, List.length_replicate, Int.toNat_natCast, qbw, qbx, imax, imin, sz]
  have f1 := qbq k (by omega) s (by omega)
  have f2 := qa5 k (by omega) s (by omega)
  cases g : prsA s with
  | none =>
    rw [g] at f1 f2
    simp only [prsD, zD] at f1 f2
    simp (disch := omega) only [qat, nth0, nth1, nth2, nth3, bit, qby, qbz, qca, qcf, qcg, qch, qci, qcj, qck, qcl, qb0, qb1, qb2, qb3, qb4, qb5, qb6, qb7, qb8, qb9, qcb, qcc, qcd, qce, qho, qhn, qhp, qf3, qgo, qgq, qeo, qav, qhk, nI, qcq, qcp, Bool.not_true, Bool.not_false, Bool.and_true, Bool.true_and, Bool.and_false, Bool.false_and, Bool.or_true, Bool.true_or, Bool.or_false, Bool.false_or, beq_self_eq_true, dTT, dFF, dT, dF, bigI, big0, qf2, qhz, qh0, List.length_set, List.length_replicate, Int.toNat_natCast, qbw, qbx, imax, imin, sz, f1, f2, qbk]
  | some x =>
    rw [g] at f1 f2
    simp only [prsD, aD] at f1 f2
    simp (disch := omega) only [qat, nth0, nth1, nth2, nth3, bit, qby, qbz, qca, qcf, qcg, qch, qci, qcj, qck, qcl, qb0, qb1, qb2, qb3, qb4, qb5, qb6, qb7, qb8, qb9, qcb, qcc, qcd, qce, qho, qhn, qhp, qf3, qgo, qgq, qeo, qav, qhk, nI, qcq, qcp, Bool.not_true, Bool.not_false, Bool.and_true, Bool.true_and, Bool.and_false, Bool.false_and, Bool.or_true, Bool.true_or, Bool.or_false, Bool.false_or, beq_self_eq_true, dTT, dFF, dT, dF, bigI, big0, qf2, qhz, qh0, List.length_set, List.length_replicate, Int.toNat_natCast, qbw, qbx, imax, imin, sz, f1, f2, qbk]
end Go.Proofs.YtjfjniebmdafeaaDoor
end
