/-
  No cell of these rows narrows 'for every input' (looked for: loops, veiled, ifaces, maps, wideKeys, modest, calm, conditions, laid).
  DERIVED. THE GIVEN ROWS OF THIS SEAT. 12 by the template 'for every input the law returns true; each argument reads behind the call as it read before'; 0 by the template 'total and deterministic' (their statements: YtljphlfgkdmahaaTotals.lean).
  GIVEN WITH THE SEED: the statements are not yours to turn. If you find one false, say at which input.
  Laid BY PROGRAM, IN A SANDBOX (cutbox-rows.mjs): the forced cells as the released guide's own fill.sh prints them over the translation 214bfd632a87cd0c… (all of the seat's roots in one cut). By AI agents, Wed Nov 11 2026. No macro, syntax, notation, axiom, sorry.
-/
import Derived.Test.YtljphlfgkdmahaaChecked
import GoSem.Claim
import GoSem.ClaimJoined
import GoSem.ClaimMapViews
import Derived.JoinedTies
import Derived.KernelRfl
namespace Go.Proofs.Ytljphlfgkdmahaa
/- THE CELL 'sum', in the pinned program and in every row, IS THE sha256 OF THE DUMP (.gsa) THAT YtljphlfgkdmahaaProg.lean LOADS. Nothing in Lean hashes anything: it is a label: what it is worth is what the hold of that sum in a sandbox is worth. -/
noncomputable def Try.pinned : Pinned := { name := "ytljphlfgkdmahaa", sum := "214bfd632a87cd0c249be0375e6677aff8b5fa16a5581f45c8c5cfd397d2f41e", checked := Try.checked }
namespace Rows
def none {H : Type} : Left H := { results := [], args := [] }

/-- 'laws.FnExactArrivalOf': WHATEVER THE INPUT: true; the input reads as it did. -/
def fnExactArrivalOfSpec : ChangeSpec := { name := "fnExactArrivalOf", fn := fun _ => fun
  | [d1, d2] => { results := [.lit (.bool true)], args := [d1, d2] }
  | _ => none }
def fnExactArrivalOfRow : OpenClaim := { program := "ytljphlfgkdmahaa", sum := "214bfd632a87cd0c249be0375e6677aff8b5fa16a5581f45c8c5cfd397d2f41e", func := "loop.example/g00982/laws.FnExactArrivalOf", spec := "fnExactArrivalOf", apart := false }
def FnExactArrivalOfSaid : Prop := fnExactArrivalOfRow.holds Try.pinned (OpenSpec.ofChange fnExactArrivalOfSpec)

/-- ITS FALSE NEIGHBOUR: 'it returns false'. Refute it at one input. -/
def fnExactArrivalOfWrong : ChangeSpec := { name := "fnExactArrivalOf", fn := fun _ => fun
  | [d1, d2] => { results := [.lit (.bool false)], args := [d1, d2] }
  | _ => none }
def FnExactArrivalOfWrongFalsely : Prop := fnExactArrivalOfRow.holds Try.pinned (OpenSpec.ofChange fnExactArrivalOfWrong)

/-- 'laws.FnExactTicksAbove': WHATEVER THE INPUT: true; the input reads as it did. -/
def fnExactTicksAboveSpec : ChangeSpec := { name := "fnExactTicksAbove", fn := fun _ => fun
  | [d1, d2] => { results := [.lit (.bool true)], args := [d1, d2] }
  | _ => none }
def fnExactTicksAboveRow : OpenClaim := { program := "ytljphlfgkdmahaa", sum := "214bfd632a87cd0c249be0375e6677aff8b5fa16a5581f45c8c5cfd397d2f41e", func := "loop.example/g00982/laws.FnExactTicksAbove", spec := "fnExactTicksAbove", apart := false }
def FnExactTicksAboveSaid : Prop := fnExactTicksAboveRow.holds Try.pinned (OpenSpec.ofChange fnExactTicksAboveSpec)

/-- ITS FALSE NEIGHBOUR: 'it returns false'. Refute it at one input. -/
def fnExactTicksAboveWrong : ChangeSpec := { name := "fnExactTicksAbove", fn := fun _ => fun
  | [d1, d2] => { results := [.lit (.bool false)], args := [d1, d2] }
  | _ => none }
def FnExactTicksAboveWrongFalsely : Prop := fnExactTicksAboveRow.holds Try.pinned (OpenSpec.ofChange fnExactTicksAboveWrong)

/-- 'laws.FnExactPeakOf': WHATEVER THE INPUT: true; the input reads as it did. -/
def fnExactPeakOfSpec : ChangeSpec := { name := "fnExactPeakOf", fn := fun _ => fun
  | [d] => { results := [.lit (.bool true)], args := [d] }
  | _ => none }
def fnExactPeakOfRow : OpenClaim := { program := "ytljphlfgkdmahaa", sum := "214bfd632a87cd0c249be0375e6677aff8b5fa16a5581f45c8c5cfd397d2f41e", func := "loop.example/g00982/laws.FnExactPeakOf", spec := "fnExactPeakOf", apart := false }
def FnExactPeakOfSaid : Prop := fnExactPeakOfRow.holds Try.pinned (OpenSpec.ofChange fnExactPeakOfSpec)

/-- ITS FALSE NEIGHBOUR: 'it returns false'. Refute it at one input. -/
def fnExactPeakOfWrong : ChangeSpec := { name := "fnExactPeakOf", fn := fun _ => fun
  | [d] => { results := [.lit (.bool false)], args := [d] }
  | _ => none }
def FnExactPeakOfWrongFalsely : Prop := fnExactPeakOfRow.holds Try.pinned (OpenSpec.ofChange fnExactPeakOfWrong)

/-- 'laws.FnExactSpreadOf': WHATEVER THE INPUT: true; the input reads as it did. -/
def fnExactSpreadOfSpec : ChangeSpec := { name := "fnExactSpreadOf", fn := fun _ => fun
  | [d1, d2] => { results := [.lit (.bool true)], args := [d1, d2] }
  | _ => none }
def fnExactSpreadOfRow : OpenClaim := { program := "ytljphlfgkdmahaa", sum := "214bfd632a87cd0c249be0375e6677aff8b5fa16a5581f45c8c5cfd397d2f41e", func := "loop.example/g00982/laws.FnExactSpreadOf", spec := "fnExactSpreadOf", apart := false }
def FnExactSpreadOfSaid : Prop := fnExactSpreadOfRow.holds Try.pinned (OpenSpec.ofChange fnExactSpreadOfSpec)

/-- ITS FALSE NEIGHBOUR: 'it returns false'. Refute it at one input. -/
def fnExactSpreadOfWrong : ChangeSpec := { name := "fnExactSpreadOf", fn := fun _ => fun
  | [d1, d2] => { results := [.lit (.bool false)], args := [d1, d2] }
  | _ => none }
def FnExactSpreadOfWrongFalsely : Prop := fnExactSpreadOfRow.holds Try.pinned (OpenSpec.ofChange fnExactSpreadOfWrong)

/-- 'laws.FnExactActOk': WHATEVER THE INPUT: true; the input reads as it did. -/
def fnExactActOkSpec : ChangeSpec := { name := "fnExactActOk", fn := fun _ => fun
  | [d] => { results := [.lit (.bool true)], args := [d] }
  | _ => none }
def fnExactActOkRow : OpenClaim := { program := "ytljphlfgkdmahaa", sum := "214bfd632a87cd0c249be0375e6677aff8b5fa16a5581f45c8c5cfd397d2f41e", func := "loop.example/g00982/laws.FnExactActOk", spec := "fnExactActOk", apart := false }
def FnExactActOkSaid : Prop := fnExactActOkRow.holds Try.pinned (OpenSpec.ofChange fnExactActOkSpec)

/-- ITS FALSE NEIGHBOUR: 'it returns false'. Refute it at one input. -/
def fnExactActOkWrong : ChangeSpec := { name := "fnExactActOk", fn := fun _ => fun
  | [d] => { results := [.lit (.bool false)], args := [d] }
  | _ => none }
def FnExactActOkWrongFalsely : Prop := fnExactActOkRow.holds Try.pinned (OpenSpec.ofChange fnExactActOkWrong)

/-- 'laws.FnExactSafeDistance': WHATEVER THE INPUT: true; the input reads as it did. -/
def fnExactSafeDistanceSpec : ChangeSpec := { name := "fnExactSafeDistance", fn := fun _ => fun
  | [d1, d2] => { results := [.lit (.bool true)], args := [d1, d2] }
  | _ => none }
def fnExactSafeDistanceRow : OpenClaim := { program := "ytljphlfgkdmahaa", sum := "214bfd632a87cd0c249be0375e6677aff8b5fa16a5581f45c8c5cfd397d2f41e", func := "loop.example/g00982/laws.FnExactSafeDistance", spec := "fnExactSafeDistance", apart := false }
def FnExactSafeDistanceSaid : Prop := fnExactSafeDistanceRow.holds Try.pinned (OpenSpec.ofChange fnExactSafeDistanceSpec)

/-- ITS FALSE NEIGHBOUR: 'it returns false'. Refute it at one input. -/
def fnExactSafeDistanceWrong : ChangeSpec := { name := "fnExactSafeDistance", fn := fun _ => fun
  | [d1, d2] => { results := [.lit (.bool false)], args := [d1, d2] }
  | _ => none }
def FnExactSafeDistanceWrongFalsely : Prop := fnExactSafeDistanceRow.holds Try.pinned (OpenSpec.ofChange fnExactSafeDistanceWrong)

/-- 'laws.FnCones': WHATEVER THE INPUT: true; the input reads as it did. -/
def fnConesSpec : ChangeSpec := { name := "fnCones", fn := fun _ => fun
  | [d] => { results := [.lit (.bool true)], args := [d] }
  | _ => none }
def fnConesRow : OpenClaim := { program := "ytljphlfgkdmahaa", sum := "214bfd632a87cd0c249be0375e6677aff8b5fa16a5581f45c8c5cfd397d2f41e", func := "loop.example/g00982/laws.FnCones", spec := "fnCones", unfollowed := true, recurses := true, apart := false }
def FnConesSaid : Prop := fnConesRow.holds Try.pinned (OpenSpec.ofChange fnConesSpec)

/-- ITS FALSE NEIGHBOUR: 'it returns false'. Refute it at one input. -/
def fnConesWrong : ChangeSpec := { name := "fnCones", fn := fun _ => fun
  | [d] => { results := [.lit (.bool false)], args := [d] }
  | _ => none }
def FnConesWrongFalsely : Prop := fnConesRow.holds Try.pinned (OpenSpec.ofChange fnConesWrong)

/-- 'laws.FnInfluence': WHATEVER THE INPUT: true; the input reads as it did. -/
def fnInfluenceSpec : ChangeSpec := { name := "fnInfluence", fn := fun _ => fun
  | [d] => { results := [.lit (.bool true)], args := [d] }
  | _ => none }
def fnInfluenceRow : OpenClaim := { program := "ytljphlfgkdmahaa", sum := "214bfd632a87cd0c249be0375e6677aff8b5fa16a5581f45c8c5cfd397d2f41e", func := "loop.example/g00982/laws.FnInfluence", spec := "fnInfluence", unfollowed := true, recurses := true, apart := false }
def FnInfluenceSaid : Prop := fnInfluenceRow.holds Try.pinned (OpenSpec.ofChange fnInfluenceSpec)

/-- ITS FALSE NEIGHBOUR: 'it returns false'. Refute it at one input. -/
def fnInfluenceWrong : ChangeSpec := { name := "fnInfluence", fn := fun _ => fun
  | [d] => { results := [.lit (.bool false)], args := [d] }
  | _ => none }
def FnInfluenceWrongFalsely : Prop := fnInfluenceRow.holds Try.pinned (OpenSpec.ofChange fnInfluenceWrong)

/-- 'laws.FnExactConeWidth': WHATEVER THE INPUT: true; the input reads as it did. -/
def fnExactConeWidthSpec : ChangeSpec := { name := "fnExactConeWidth", fn := fun _ => fun
  | [d1, d2, d3] => { results := [.lit (.bool true)], args := [d1, d2, d3] }
  | _ => none }
def fnExactConeWidthRow : OpenClaim := { program := "ytljphlfgkdmahaa", sum := "214bfd632a87cd0c249be0375e6677aff8b5fa16a5581f45c8c5cfd397d2f41e", func := "loop.example/g00982/laws.FnExactConeWidth", spec := "fnExactConeWidth", unfollowed := true, recurses := true, apart := false }
def FnExactConeWidthSaid : Prop := fnExactConeWidthRow.holds Try.pinned (OpenSpec.ofChange fnExactConeWidthSpec)

/-- ITS FALSE NEIGHBOUR: 'it returns false'. Refute it at one input. -/
def fnExactConeWidthWrong : ChangeSpec := { name := "fnExactConeWidth", fn := fun _ => fun
  | [d1, d2, d3] => { results := [.lit (.bool false)], args := [d1, d2, d3] }
  | _ => none }
def FnExactConeWidthWrongFalsely : Prop := fnExactConeWidthRow.holds Try.pinned (OpenSpec.ofChange fnExactConeWidthWrong)

/-- 'laws.FnExactWorkShare': WHATEVER THE INPUT: true; the input reads as it did. -/
def fnExactWorkShareSpec : ChangeSpec := { name := "fnExactWorkShare", fn := fun _ => fun
  | [d1, d2] => { results := [.lit (.bool true)], args := [d1, d2] }
  | _ => none }
def fnExactWorkShareRow : OpenClaim := { program := "ytljphlfgkdmahaa", sum := "214bfd632a87cd0c249be0375e6677aff8b5fa16a5581f45c8c5cfd397d2f41e", func := "loop.example/g00982/laws.FnExactWorkShare", spec := "fnExactWorkShare", apart := false }
def FnExactWorkShareSaid : Prop := fnExactWorkShareRow.holds Try.pinned (OpenSpec.ofChange fnExactWorkShareSpec)

/-- ITS FALSE NEIGHBOUR: 'it returns false'. Refute it at one input. -/
def fnExactWorkShareWrong : ChangeSpec := { name := "fnExactWorkShare", fn := fun _ => fun
  | [d1, d2] => { results := [.lit (.bool false)], args := [d1, d2] }
  | _ => none }
def FnExactWorkShareWrongFalsely : Prop := fnExactWorkShareRow.holds Try.pinned (OpenSpec.ofChange fnExactWorkShareWrong)

/-- 'laws.FnExactReached': WHATEVER THE INPUT: true; the input reads as it did. -/
def fnExactReachedSpec : ChangeSpec := { name := "fnExactReached", fn := fun _ => fun
  | [d1, d2, d3, d4] => { results := [.lit (.bool true)], args := [d1, d2, d3, d4] }
  | _ => none }
def fnExactReachedRow : OpenClaim := { program := "ytljphlfgkdmahaa", sum := "214bfd632a87cd0c249be0375e6677aff8b5fa16a5581f45c8c5cfd397d2f41e", func := "loop.example/g00982/laws.FnExactReached", spec := "fnExactReached", unfollowed := true, recurses := true, apart := false }
def FnExactReachedSaid : Prop := fnExactReachedRow.holds Try.pinned (OpenSpec.ofChange fnExactReachedSpec)

/-- ITS FALSE NEIGHBOUR: 'it returns false'. Refute it at one input. -/
def fnExactReachedWrong : ChangeSpec := { name := "fnExactReached", fn := fun _ => fun
  | [d1, d2, d3, d4] => { results := [.lit (.bool false)], args := [d1, d2, d3, d4] }
  | _ => none }
def FnExactReachedWrongFalsely : Prop := fnExactReachedRow.holds Try.pinned (OpenSpec.ofChange fnExactReachedWrong)

/-- 'laws.FnExactEfficiency': WHATEVER THE INPUT: true; the input reads as it did. -/
def fnExactEfficiencySpec : ChangeSpec := { name := "fnExactEfficiency", fn := fun _ => fun
  | [d1, d2] => { results := [.lit (.bool true)], args := [d1, d2] }
  | _ => none }
def fnExactEfficiencyRow : OpenClaim := { program := "ytljphlfgkdmahaa", sum := "214bfd632a87cd0c249be0375e6677aff8b5fa16a5581f45c8c5cfd397d2f41e", func := "loop.example/g00982/laws.FnExactEfficiency", spec := "fnExactEfficiency", apart := false }
def FnExactEfficiencySaid : Prop := fnExactEfficiencyRow.holds Try.pinned (OpenSpec.ofChange fnExactEfficiencySpec)

/-- ITS FALSE NEIGHBOUR: 'it returns false'. Refute it at one input. -/
def fnExactEfficiencyWrong : ChangeSpec := { name := "fnExactEfficiency", fn := fun _ => fun
  | [d1, d2] => { results := [.lit (.bool false)], args := [d1, d2] }
  | _ => none }
def FnExactEfficiencyWrongFalsely : Prop := fnExactEfficiencyRow.holds Try.pinned (OpenSpec.ofChange fnExactEfficiencyWrong)

/- THE SECOND FORM. 'bulk': how many values and letters a reading holds, each counted each time it is reached (what is shared counts as often as it is met; a slice's spare places count too). A statement '..UptoSaid' is the law's where the arguments, and the package variables that the reading takes, are together of bulk at most 1048576: NARROWER than '..Said'. Prove '..Said' where nothing that the law and all that it calls make is longer than what came in: it says more and counts as full. Else prove '..UptoSaid'. A law counts once. -/
mutual
def uptoBulk {H : Type} : DataW H → Nat
  | .lit (.string bytes) => bytes.length + 1
  | .lit _ => 1
  | .nil => 1
  | .ptr d => uptoBulk d + 1
  | .slice elems spare => uptoBulkAll elems + uptoBulkAll spare + 1
  | .agg parts => uptoBulkAll parts + 1
  | .iface _ d => uptoBulk d + 1
  | .map entries => uptoBulkEntries entries + 1
  | .held _ => 1
def uptoBulkAll {H : Type} : List (DataW H) → Nat
  | [] => 0
  | d :: r => uptoBulk d + uptoBulkAll r
def uptoBulkEntries {H : Type} : List (Lit × DataW H) → Nat
  | [] => 0
  | x :: r => uptoBulkEntry x + uptoBulkEntries r
def uptoBulkEntry {H : Type} : Lit × DataW H → Nat
  | (.string bytes, d) => bytes.length + uptoBulk d + 1
  | (_, d) => uptoBulk d + 1
 end
def uptoSmall : (H : Type) → List (DataW H) → Bool := fun _ ds => decide (uptoBulkAll ds ≤ 1048576)
def OpenSpec.upto (s : _root_.Go.ChangeSpec) : _root_.Go.OpenSpec := { _root_.Go.OpenSpec.ofChange s with cond := some uptoSmall }

/-- 'laws.FnExactArrivalOf', WHERE WHAT IT READS IS OF BULK AT MOST 1048576: true; the input reads as it did. -/
def fnExactArrivalOfUptoRow : OpenClaim := { program := "ytljphlfgkdmahaa", sum := "214bfd632a87cd0c249be0375e6677aff8b5fa16a5581f45c8c5cfd397d2f41e", func := "loop.example/g00982/laws.FnExactArrivalOf", spec := "fnExactArrivalOf", apart := false, narrowed := true }
def FnExactArrivalOfUptoSaid : Prop := fnExactArrivalOfUptoRow.holds Try.pinned (OpenSpec.upto fnExactArrivalOfSpec)

/-- 'laws.FnExactTicksAbove', WHERE WHAT IT READS IS OF BULK AT MOST 1048576: true; the input reads as it did. -/
def fnExactTicksAboveUptoRow : OpenClaim := { program := "ytljphlfgkdmahaa", sum := "214bfd632a87cd0c249be0375e6677aff8b5fa16a5581f45c8c5cfd397d2f41e", func := "loop.example/g00982/laws.FnExactTicksAbove", spec := "fnExactTicksAbove", apart := false, narrowed := true }
def FnExactTicksAboveUptoSaid : Prop := fnExactTicksAboveUptoRow.holds Try.pinned (OpenSpec.upto fnExactTicksAboveSpec)

/-- 'laws.FnExactPeakOf', WHERE WHAT IT READS IS OF BULK AT MOST 1048576: true; the input reads as it did. -/
def fnExactPeakOfUptoRow : OpenClaim := { program := "ytljphlfgkdmahaa", sum := "214bfd632a87cd0c249be0375e6677aff8b5fa16a5581f45c8c5cfd397d2f41e", func := "loop.example/g00982/laws.FnExactPeakOf", spec := "fnExactPeakOf", apart := false, narrowed := true }
def FnExactPeakOfUptoSaid : Prop := fnExactPeakOfUptoRow.holds Try.pinned (OpenSpec.upto fnExactPeakOfSpec)

/-- 'laws.FnExactSpreadOf', WHERE WHAT IT READS IS OF BULK AT MOST 1048576: true; the input reads as it did. -/
def fnExactSpreadOfUptoRow : OpenClaim := { program := "ytljphlfgkdmahaa", sum := "214bfd632a87cd0c249be0375e6677aff8b5fa16a5581f45c8c5cfd397d2f41e", func := "loop.example/g00982/laws.FnExactSpreadOf", spec := "fnExactSpreadOf", apart := false, narrowed := true }
def FnExactSpreadOfUptoSaid : Prop := fnExactSpreadOfUptoRow.holds Try.pinned (OpenSpec.upto fnExactSpreadOfSpec)

/-- 'laws.FnExactActOk', WHERE WHAT IT READS IS OF BULK AT MOST 1048576: true; the input reads as it did. -/
def fnExactActOkUptoRow : OpenClaim := { program := "ytljphlfgkdmahaa", sum := "214bfd632a87cd0c249be0375e6677aff8b5fa16a5581f45c8c5cfd397d2f41e", func := "loop.example/g00982/laws.FnExactActOk", spec := "fnExactActOk", apart := false, narrowed := true }
def FnExactActOkUptoSaid : Prop := fnExactActOkUptoRow.holds Try.pinned (OpenSpec.upto fnExactActOkSpec)

/-- 'laws.FnExactSafeDistance', WHERE WHAT IT READS IS OF BULK AT MOST 1048576: true; the input reads as it did. -/
def fnExactSafeDistanceUptoRow : OpenClaim := { program := "ytljphlfgkdmahaa", sum := "214bfd632a87cd0c249be0375e6677aff8b5fa16a5581f45c8c5cfd397d2f41e", func := "loop.example/g00982/laws.FnExactSafeDistance", spec := "fnExactSafeDistance", apart := false, narrowed := true }
def FnExactSafeDistanceUptoSaid : Prop := fnExactSafeDistanceUptoRow.holds Try.pinned (OpenSpec.upto fnExactSafeDistanceSpec)

/-- 'laws.FnCones', WHERE WHAT IT READS IS OF BULK AT MOST 1048576: true; the input reads as it did. -/
def fnConesUptoRow : OpenClaim := { program := "ytljphlfgkdmahaa", sum := "214bfd632a87cd0c249be0375e6677aff8b5fa16a5581f45c8c5cfd397d2f41e", func := "loop.example/g00982/laws.FnCones", spec := "fnCones", unfollowed := true, recurses := true, apart := false, narrowed := true }
def FnConesUptoSaid : Prop := fnConesUptoRow.holds Try.pinned (OpenSpec.upto fnConesSpec)

/-- 'laws.FnInfluence', WHERE WHAT IT READS IS OF BULK AT MOST 1048576: true; the input reads as it did. -/
def fnInfluenceUptoRow : OpenClaim := { program := "ytljphlfgkdmahaa", sum := "214bfd632a87cd0c249be0375e6677aff8b5fa16a5581f45c8c5cfd397d2f41e", func := "loop.example/g00982/laws.FnInfluence", spec := "fnInfluence", unfollowed := true, recurses := true, apart := false, narrowed := true }
def FnInfluenceUptoSaid : Prop := fnInfluenceUptoRow.holds Try.pinned (OpenSpec.upto fnInfluenceSpec)

/-- 'laws.FnExactConeWidth', WHERE WHAT IT READS IS OF BULK AT MOST 1048576: true; the input reads as it did. -/
def fnExactConeWidthUptoRow : OpenClaim := { program := "ytljphlfgkdmahaa", sum := "214bfd632a87cd0c249be0375e6677aff8b5fa16a5581f45c8c5cfd397d2f41e", func := "loop.example/g00982/laws.FnExactConeWidth", spec := "fnExactConeWidth", unfollowed := true, recurses := true, apart := false, narrowed := true }
def FnExactConeWidthUptoSaid : Prop := fnExactConeWidthUptoRow.holds Try.pinned (OpenSpec.upto fnExactConeWidthSpec)

/-- 'laws.FnExactWorkShare', WHERE WHAT IT READS IS OF BULK AT MOST 1048576: true; the input reads as it did. -/
def fnExactWorkShareUptoRow : OpenClaim := { program := "ytljphlfgkdmahaa", sum := "214bfd632a87cd0c249be0375e6677aff8b5fa16a5581f45c8c5cfd397d2f41e", func := "loop.example/g00982/laws.FnExactWorkShare", spec := "fnExactWorkShare", apart := false, narrowed := true }
def FnExactWorkShareUptoSaid : Prop := fnExactWorkShareUptoRow.holds Try.pinned (OpenSpec.upto fnExactWorkShareSpec)

/-- 'laws.FnExactReached', WHERE WHAT IT READS IS OF BULK AT MOST 1048576: true; the input reads as it did. -/
def fnExactReachedUptoRow : OpenClaim := { program := "ytljphlfgkdmahaa", sum := "214bfd632a87cd0c249be0375e6677aff8b5fa16a5581f45c8c5cfd397d2f41e", func := "loop.example/g00982/laws.FnExactReached", spec := "fnExactReached", unfollowed := true, recurses := true, apart := false, narrowed := true }
def FnExactReachedUptoSaid : Prop := fnExactReachedUptoRow.holds Try.pinned (OpenSpec.upto fnExactReachedSpec)

/-- 'laws.FnExactEfficiency', WHERE WHAT IT READS IS OF BULK AT MOST 1048576: true; the input reads as it did. -/
def fnExactEfficiencyUptoRow : OpenClaim := { program := "ytljphlfgkdmahaa", sum := "214bfd632a87cd0c249be0375e6677aff8b5fa16a5581f45c8c5cfd397d2f41e", func := "loop.example/g00982/laws.FnExactEfficiency", spec := "fnExactEfficiency", apart := false, narrowed := true }
def FnExactEfficiencyUptoSaid : Prop := fnExactEfficiencyUptoRow.holds Try.pinned (OpenSpec.upto fnExactEfficiencySpec)

end Rows
end Go.Proofs.Ytljphlfgkdmahaa
