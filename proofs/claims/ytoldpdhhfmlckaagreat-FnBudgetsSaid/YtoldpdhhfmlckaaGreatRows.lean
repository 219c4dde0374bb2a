/-
  No cell of these rows narrows 'for every input' (looked for: loops, veiled, ifaces, maps, wideKeys, modest, calm, conditions, laid).
  DERIVED. THE GIVEN ROWS OF THIS SEAT. 14 by the template 'for every input the law returns true; each argument reads behind the call as it read before'; 0 by the template 'total and deterministic' (their statements: YtoldpdhhfmlckaaGreatTotals.lean).
  GIVEN WITH THE SEED: the statements are not yours to turn. If you find one false, say at which input.
  Laid BY PROGRAM, IN A SANDBOX (cutbox-rows.mjs): the forced cells as the released guide's own fill.sh prints them over the translation a8de45c36f177bcc… (all of the seat's roots in one cut). By AI agents, Wed Nov 11 2026. No macro, syntax, notation, axiom, sorry.
-/
import Derived.Test.YtoldpdhhfmlckaaGreatChecked
import GoSem.Claim
import GoSem.ClaimJoined
import GoSem.ClaimMapViews
import Derived.JoinedTies
import Derived.KernelRfl
namespace Go.Proofs.YtoldpdhhfmlckaaGreat
/- THE CELL 'sum', in the pinned program and in every row, IS THE sha256 OF THE DUMP (.gsa) THAT YtoldpdhhfmlckaaGreatProg.lean LOADS. Nothing in Lean hashes anything: it is a label: what it is worth is what the hold of that sum in a sandbox is worth. -/
noncomputable def Tryz.pinned : Pinned := { name := "ytoldpdhhfmlckaagreat", sum := "a8de45c36f177bcce5ae46490cde4e93a64fa321deef34a952cccf83d6fe3ebc", checked := Tryz.checked }
namespace Rows
def none {H : Type} : Left H := { results := [], args := [] }

/-- 'laws.FnBudgets': WHATEVER THE INPUT: true; the input reads as it did. -/
def fnBudgetsSpec : ChangeSpec := { name := "fnBudgets", fn := fun _ => fun
  | [d] => { results := [.lit (.bool true)], args := [d] }
  | _ => none }
def fnBudgetsRow : OpenClaim := { program := "ytoldpdhhfmlckaagreat", sum := "a8de45c36f177bcce5ae46490cde4e93a64fa321deef34a952cccf83d6fe3ebc", func := "loop.example/g00982/laws.FnBudgets", spec := "fnBudgets", inPlace := ["slices.overlaps[loop.example/g00982/impl.Id]", "slices.overlaps[int]"], unfollowed := true, recurses := true, plainKeys := false, apart := false }
def FnBudgetsSaid : Prop := fnBudgetsRow.holds Tryz.pinned (OpenSpec.ofChange fnBudgetsSpec)

/-- ITS FALSE NEIGHBOUR: 'it returns false'. Refute it at one input. -/
def fnBudgetsWrong : ChangeSpec := { name := "fnBudgets", fn := fun _ => fun
  | [d] => { results := [.lit (.bool false)], args := [d] }
  | _ => none }
def FnBudgetsWrongFalsely : Prop := fnBudgetsRow.holds Tryz.pinned (OpenSpec.ofChange fnBudgetsWrong)

/-- 'laws.FnPrefixes': WHATEVER THE INPUT: true; the input reads as it did. -/
def fnPrefixesSpec : ChangeSpec := { name := "fnPrefixes", fn := fun _ => fun
  | [d] => { results := [.lit (.bool true)], args := [d] }
  | _ => none }
def fnPrefixesRow : OpenClaim := { program := "ytoldpdhhfmlckaagreat", sum := "a8de45c36f177bcce5ae46490cde4e93a64fa321deef34a952cccf83d6fe3ebc", func := "loop.example/g00982/laws.FnPrefixes", spec := "fnPrefixes", inPlace := ["slices.overlaps[loop.example/g00982/impl.Id]", "slices.overlaps[int]"], unfollowed := true, recurses := true, plainKeys := false, apart := false }
def FnPrefixesSaid : Prop := fnPrefixesRow.holds Tryz.pinned (OpenSpec.ofChange fnPrefixesSpec)

/-- ITS FALSE NEIGHBOUR: 'it returns false'. Refute it at one input. -/
def fnPrefixesWrong : ChangeSpec := { name := "fnPrefixes", fn := fun _ => fun
  | [d] => { results := [.lit (.bool false)], args := [d] }
  | _ => none }
def FnPrefixesWrongFalsely : Prop := fnPrefixesRow.holds Tryz.pinned (OpenSpec.ofChange fnPrefixesWrong)

/-- 'laws.FnCostRuns': WHATEVER THE INPUT: true; the input reads as it did. -/
def fnCostRunsSpec : ChangeSpec := { name := "fnCostRuns", fn := fun _ => fun
  | [d] => { results := [.lit (.bool true)], args := [d] }
  | _ => none }
def fnCostRunsRow : OpenClaim := { program := "ytoldpdhhfmlckaagreat", sum := "a8de45c36f177bcce5ae46490cde4e93a64fa321deef34a952cccf83d6fe3ebc", func := "loop.example/g00982/laws.FnCostRuns", spec := "fnCostRuns", inPlace := ["slices.overlaps[loop.example/g00982/impl.Id]", "slices.overlaps[int]"], unfollowed := true, recurses := true, plainKeys := false, apart := false }
def FnCostRunsSaid : Prop := fnCostRunsRow.holds Tryz.pinned (OpenSpec.ofChange fnCostRunsSpec)

/-- ITS FALSE NEIGHBOUR: 'it returns false'. Refute it at one input. -/
def fnCostRunsWrong : ChangeSpec := { name := "fnCostRuns", fn := fun _ => fun
  | [d] => { results := [.lit (.bool false)], args := [d] }
  | _ => none }
def FnCostRunsWrongFalsely : Prop := fnCostRunsRow.holds Tryz.pinned (OpenSpec.ofChange fnCostRunsWrong)

/-- 'laws.FnGauges': WHATEVER THE INPUT: true; the input reads as it did. -/
def fnGaugesSpec : ChangeSpec := { name := "fnGauges", fn := fun _ => fun
  | [d] => { results := [.lit (.bool true)], args := [d] }
  | _ => none }
def fnGaugesRow : OpenClaim := { program := "ytoldpdhhfmlckaagreat", sum := "a8de45c36f177bcce5ae46490cde4e93a64fa321deef34a952cccf83d6fe3ebc", func := "loop.example/g00982/laws.FnGauges", spec := "fnGauges", inPlace := ["slices.overlaps[loop.example/g00982/impl.Id]", "slices.overlaps[int]"], unfollowed := true, recurses := true, plainKeys := false, apart := false }
def FnGaugesSaid : Prop := fnGaugesRow.holds Tryz.pinned (OpenSpec.ofChange fnGaugesSpec)

/-- ITS FALSE NEIGHBOUR: 'it returns false'. Refute it at one input. -/
def fnGaugesWrong : ChangeSpec := { name := "fnGauges", fn := fun _ => fun
  | [d] => { results := [.lit (.bool false)], args := [d] }
  | _ => none }
def FnGaugesWrongFalsely : Prop := fnGaugesRow.holds Tryz.pinned (OpenSpec.ofChange fnGaugesWrong)

/-- 'laws.FnExactCostRun': WHATEVER THE INPUT: true; the input reads as it did. -/
def fnExactCostRunSpec : ChangeSpec := { name := "fnExactCostRun", fn := fun _ => fun
  | [d1, d2, d3] => { results := [.lit (.bool true)], args := [d1, d2, d3] }
  | _ => none }
def fnExactCostRunRow : OpenClaim := { program := "ytoldpdhhfmlckaagreat", sum := "a8de45c36f177bcce5ae46490cde4e93a64fa321deef34a952cccf83d6fe3ebc", func := "loop.example/g00982/laws.FnExactCostRun", spec := "fnExactCostRun", inPlace := ["slices.overlaps[loop.example/g00982/impl.Id]", "slices.overlaps[int]"], unfollowed := true, recurses := true, plainKeys := false, apart := false }
def FnExactCostRunSaid : Prop := fnExactCostRunRow.holds Tryz.pinned (OpenSpec.ofChange fnExactCostRunSpec)

/-- ITS FALSE NEIGHBOUR: 'it returns false'. Refute it at one input. -/
def fnExactCostRunWrong : ChangeSpec := { name := "fnExactCostRun", fn := fun _ => fun
  | [d1, d2, d3] => { results := [.lit (.bool false)], args := [d1, d2, d3] }
  | _ => none }
def FnExactCostRunWrongFalsely : Prop := fnExactCostRunRow.holds Tryz.pinned (OpenSpec.ofChange fnExactCostRunWrong)

/-- 'laws.FnWorlds': WHATEVER THE INPUT: true; the input reads as it did. -/
def fnWorldsSpec : ChangeSpec := { name := "fnWorlds", fn := fun _ => fun
  | [d] => { results := [.lit (.bool true)], args := [d] }
  | _ => none }
def fnWorldsRow : OpenClaim := { program := "ytoldpdhhfmlckaagreat", sum := "a8de45c36f177bcce5ae46490cde4e93a64fa321deef34a952cccf83d6fe3ebc", func := "loop.example/g00982/laws.FnWorlds", spec := "fnWorlds", inPlace := ["slices.overlaps[loop.example/g00982/impl.Id]", "slices.overlaps[int]"], unfollowed := true, recurses := true, plainKeys := false, apart := false }
def FnWorldsSaid : Prop := fnWorldsRow.holds Tryz.pinned (OpenSpec.ofChange fnWorldsSpec)

/-- ITS FALSE NEIGHBOUR: 'it returns false'. Refute it at one input. -/
def fnWorldsWrong : ChangeSpec := { name := "fnWorlds", fn := fun _ => fun
  | [d] => { results := [.lit (.bool false)], args := [d] }
  | _ => none }
def FnWorldsWrongFalsely : Prop := fnWorldsRow.holds Tryz.pinned (OpenSpec.ofChange fnWorldsWrong)

/-- 'laws.FnParted': WHATEVER THE INPUT: true; the input reads as it did. -/
def fnPartedSpec : ChangeSpec := { name := "fnParted", fn := fun _ => fun
  | [d] => { results := [.lit (.bool true)], args := [d] }
  | _ => none }
def fnPartedRow : OpenClaim := { program := "ytoldpdhhfmlckaagreat", sum := "a8de45c36f177bcce5ae46490cde4e93a64fa321deef34a952cccf83d6fe3ebc", func := "loop.example/g00982/laws.FnParted", spec := "fnParted", inPlace := ["slices.overlaps[loop.example/g00982/impl.Id]", "slices.overlaps[int]"], unfollowed := true, recurses := true, plainKeys := false, apart := false }
def FnPartedSaid : Prop := fnPartedRow.holds Tryz.pinned (OpenSpec.ofChange fnPartedSpec)

/-- ITS FALSE NEIGHBOUR: 'it returns false'. Refute it at one input. -/
def fnPartedWrong : ChangeSpec := { name := "fnParted", fn := fun _ => fun
  | [d] => { results := [.lit (.bool false)], args := [d] }
  | _ => none }
def FnPartedWrongFalsely : Prop := fnPartedRow.holds Tryz.pinned (OpenSpec.ofChange fnPartedWrong)

/-- 'laws.FnExactGaugeRun': WHATEVER THE INPUT: true; the input reads as it did. -/
def fnExactGaugeRunSpec : ChangeSpec := { name := "fnExactGaugeRun", fn := fun _ => fun
  | [d1, d2, d3, d4] => { results := [.lit (.bool true)], args := [d1, d2, d3, d4] }
  | _ => none }
def fnExactGaugeRunRow : OpenClaim := { program := "ytoldpdhhfmlckaagreat", sum := "a8de45c36f177bcce5ae46490cde4e93a64fa321deef34a952cccf83d6fe3ebc", func := "loop.example/g00982/laws.FnExactGaugeRun", spec := "fnExactGaugeRun", inPlace := ["slices.overlaps[loop.example/g00982/impl.Id]", "slices.overlaps[int]"], unfollowed := true, recurses := true, plainKeys := false, apart := false }
def FnExactGaugeRunSaid : Prop := fnExactGaugeRunRow.holds Tryz.pinned (OpenSpec.ofChange fnExactGaugeRunSpec)

/-- ITS FALSE NEIGHBOUR: 'it returns false'. Refute it at one input. -/
def fnExactGaugeRunWrong : ChangeSpec := { name := "fnExactGaugeRun", fn := fun _ => fun
  | [d1, d2, d3, d4] => { results := [.lit (.bool false)], args := [d1, d2, d3, d4] }
  | _ => none }
def FnExactGaugeRunWrongFalsely : Prop := fnExactGaugeRunRow.holds Tryz.pinned (OpenSpec.ofChange fnExactGaugeRunWrong)

/-- 'laws.FnExactPartAt': WHATEVER THE INPUT: true; the input reads as it did. -/
def fnExactPartAtSpec : ChangeSpec := { name := "fnExactPartAt", fn := fun _ => fun
  | [d1, d2, d3] => { results := [.lit (.bool true)], args := [d1, d2, d3] }
  | _ => none }
def fnExactPartAtRow : OpenClaim := { program := "ytoldpdhhfmlckaagreat", sum := "a8de45c36f177bcce5ae46490cde4e93a64fa321deef34a952cccf83d6fe3ebc", func := "loop.example/g00982/laws.FnExactPartAt", spec := "fnExactPartAt", inPlace := ["slices.overlaps[loop.example/g00982/impl.Id]", "slices.overlaps[int]"], unfollowed := true, recurses := true, plainKeys := false, apart := false }
def FnExactPartAtSaid : Prop := fnExactPartAtRow.holds Tryz.pinned (OpenSpec.ofChange fnExactPartAtSpec)

/-- ITS FALSE NEIGHBOUR: 'it returns false'. Refute it at one input. -/
def fnExactPartAtWrong : ChangeSpec := { name := "fnExactPartAt", fn := fun _ => fun
  | [d1, d2, d3] => { results := [.lit (.bool false)], args := [d1, d2, d3] }
  | _ => none }
def FnExactPartAtWrongFalsely : Prop := fnExactPartAtRow.holds Tryz.pinned (OpenSpec.ofChange fnExactPartAtWrong)

/-- 'laws.FnSame': WHATEVER THE INPUT: true; the input reads as it did. -/
def fnSameSpec : ChangeSpec := { name := "fnSame", fn := fun _ => fun
  | [d] => { results := [.lit (.bool true)], args := [d] }
  | _ => none }
def fnSameRow : OpenClaim := { program := "ytoldpdhhfmlckaagreat", sum := "a8de45c36f177bcce5ae46490cde4e93a64fa321deef34a952cccf83d6fe3ebc", func := "loop.example/g00982/laws.FnSame", spec := "fnSame", inPlace := ["slices.overlaps[loop.example/g00982/impl.Id]", "slices.overlaps[int]"], unfollowed := true, recurses := true, plainKeys := false, apart := false }
def FnSameSaid : Prop := fnSameRow.holds Tryz.pinned (OpenSpec.ofChange fnSameSpec)

/-- ITS FALSE NEIGHBOUR: 'it returns false'. Refute it at one input. -/
def fnSameWrong : ChangeSpec := { name := "fnSame", fn := fun _ => fun
  | [d] => { results := [.lit (.bool false)], args := [d] }
  | _ => none }
def FnSameWrongFalsely : Prop := fnSameRow.holds Tryz.pinned (OpenSpec.ofChange fnSameWrong)

/-- 'laws.FnExactAdvance': WHATEVER THE INPUT: true; the input reads as it did. -/
def fnExactAdvanceSpec : ChangeSpec := { name := "fnExactAdvance", fn := fun _ => fun
  | [d1, d2] => { results := [.lit (.bool true)], args := [d1, d2] }
  | _ => none }
def fnExactAdvanceRow : OpenClaim := { program := "ytoldpdhhfmlckaagreat", sum := "a8de45c36f177bcce5ae46490cde4e93a64fa321deef34a952cccf83d6fe3ebc", func := "loop.example/g00982/laws.FnExactAdvance", spec := "fnExactAdvance", inPlace := ["slices.overlaps[loop.example/g00982/impl.Id]", "slices.overlaps[int]"], unfollowed := true, recurses := true, plainKeys := false, apart := false }
def FnExactAdvanceSaid : Prop := fnExactAdvanceRow.holds Tryz.pinned (OpenSpec.ofChange fnExactAdvanceSpec)

/-- ITS FALSE NEIGHBOUR: 'it returns false'. Refute it at one input. -/
def fnExactAdvanceWrong : ChangeSpec := { name := "fnExactAdvance", fn := fun _ => fun
  | [d1, d2] => { results := [.lit (.bool false)], args := [d1, d2] }
  | _ => none }
def FnExactAdvanceWrongFalsely : Prop := fnExactAdvanceRow.holds Tryz.pinned (OpenSpec.ofChange fnExactAdvanceWrong)

/-- 'laws.FnExactDoAct': WHATEVER THE INPUT: true; the input reads as it did. -/
def fnExactDoActSpec : ChangeSpec := { name := "fnExactDoAct", fn := fun _ => fun
  | [d1, d2] => { results := [.lit (.bool true)], args := [d1, d2] }
  | _ => none }
def fnExactDoActRow : OpenClaim := { program := "ytoldpdhhfmlckaagreat", sum := "a8de45c36f177bcce5ae46490cde4e93a64fa321deef34a952cccf83d6fe3ebc", func := "loop.example/g00982/laws.FnExactDoAct", spec := "fnExactDoAct", inPlace := ["slices.overlaps[loop.example/g00982/impl.Id]", "slices.overlaps[int]"], unfollowed := true, recurses := true, plainKeys := false, apart := false }
def FnExactDoActSaid : Prop := fnExactDoActRow.holds Tryz.pinned (OpenSpec.ofChange fnExactDoActSpec)

/-- ITS FALSE NEIGHBOUR: 'it returns false'. Refute it at one input. -/
def fnExactDoActWrong : ChangeSpec := { name := "fnExactDoAct", fn := fun _ => fun
  | [d1, d2] => { results := [.lit (.bool false)], args := [d1, d2] }
  | _ => none }
def FnExactDoActWrongFalsely : Prop := fnExactDoActRow.holds Tryz.pinned (OpenSpec.ofChange fnExactDoActWrong)

/-- 'laws.FnExactIsReplay': WHATEVER THE INPUT: true; the input reads as it did. -/
def fnExactIsReplaySpec : ChangeSpec := { name := "fnExactIsReplay", fn := fun _ => fun
  | [d1, d2, d3] => { results := [.lit (.bool true)], args := [d1, d2, d3] }
  | _ => none }
def fnExactIsReplayRow : OpenClaim := { program := "ytoldpdhhfmlckaagreat", sum := "a8de45c36f177bcce5ae46490cde4e93a64fa321deef34a952cccf83d6fe3ebc", func := "loop.example/g00982/laws.FnExactIsReplay", spec := "fnExactIsReplay", inPlace := ["slices.overlaps[loop.example/g00982/impl.Id]", "slices.overlaps[int]"], unfollowed := true, recurses := true, plainKeys := false, apart := false }
def FnExactIsReplaySaid : Prop := fnExactIsReplayRow.holds Tryz.pinned (OpenSpec.ofChange fnExactIsReplaySpec)

/-- ITS FALSE NEIGHBOUR: 'it returns false'. Refute it at one input. -/
def fnExactIsReplayWrong : ChangeSpec := { name := "fnExactIsReplay", fn := fun _ => fun
  | [d1, d2, d3] => { results := [.lit (.bool false)], args := [d1, d2, d3] }
  | _ => none }
def FnExactIsReplayWrongFalsely : Prop := fnExactIsReplayRow.holds Tryz.pinned (OpenSpec.ofChange fnExactIsReplayWrong)

/-- 'laws.FnExactRunActs': WHATEVER THE INPUT: true; the input reads as it did. -/
def fnExactRunActsSpec : ChangeSpec := { name := "fnExactRunActs", fn := fun _ => fun
  | [d1, d2] => { results := [.lit (.bool true)], args := [d1, d2] }
  | _ => none }
def fnExactRunActsRow : OpenClaim := { program := "ytoldpdhhfmlckaagreat", sum := "a8de45c36f177bcce5ae46490cde4e93a64fa321deef34a952cccf83d6fe3ebc", func := "loop.example/g00982/laws.FnExactRunActs", spec := "fnExactRunActs", inPlace := ["slices.overlaps[loop.example/g00982/impl.Id]", "slices.overlaps[int]"], unfollowed := true, recurses := true, plainKeys := false, apart := false }
def FnExactRunActsSaid : Prop := fnExactRunActsRow.holds Tryz.pinned (OpenSpec.ofChange fnExactRunActsSpec)

/-- ITS FALSE NEIGHBOUR: 'it returns false'. Refute it at one input. -/
def fnExactRunActsWrong : ChangeSpec := { name := "fnExactRunActs", fn := fun _ => fun
  | [d1, d2] => { results := [.lit (.bool false)], args := [d1, d2] }
  | _ => none }
def FnExactRunActsWrongFalsely : Prop := fnExactRunActsRow.holds Tryz.pinned (OpenSpec.ofChange fnExactRunActsWrong)

/- THE SECOND FORM. 'bulk': how many values and letters a reading holds, each counted each time it is reached (what is shared counts as often as it is met; a slice's spare places count too). A statement '..UptoSaid' is the law's where the arguments, and the package variables that the reading takes, are together of bulk at most 1048576: NARROWER than '..Said'. Prove '..Said' where nothing that the law and all that it calls make is longer than what came in: it says more and counts as full. Else prove '..UptoSaid'. A law counts once. -/
mutual
def uptoBulk {H : Type} : DataW H → Nat
  | .lit (.string bytes) => bytes.length + 1
  | .lit _ => 1
  | .nil => 1
  | .ptr d => uptoBulk d + 1
  | .slice elems spare => uptoBulkAll elems + uptoBulkAll spare + 1
  | .agg parts => uptoBulkAll parts + 1
  | .iface _ d => uptoBulk d + 1
  | .map entries => uptoBulkEntries entries + 1
  | .held _ => 1
def uptoBulkAll {H : Type} : List (DataW H) → Nat
  | [] => 0
  | d :: r => uptoBulk d + uptoBulkAll r
def uptoBulkEntries {H : Type} : List (Lit × DataW H) → Nat
  | [] => 0
  | x :: r => uptoBulkEntry x + uptoBulkEntries r
def uptoBulkEntry {H : Type} : Lit × DataW H → Nat
  | (.string bytes, d) => bytes.length + uptoBulk d + 1
  | (_, d) => uptoBulk d + 1
 end
def uptoSmall : (H : Type) → List (DataW H) → Bool := fun _ ds => decide (uptoBulkAll ds ≤ 1048576)
def OpenSpec.upto (s : _root_.Go.ChangeSpec) : _root_.Go.OpenSpec := { _root_.Go.OpenSpec.ofChange s with cond := some uptoSmall }

/-- 'laws.FnBudgets', WHERE WHAT IT READS IS OF BULK AT MOST 1048576: true; the input reads as it did. -/
def fnBudgetsUptoRow : OpenClaim := { program := "ytoldpdhhfmlckaagreat", sum := "a8de45c36f177bcce5ae46490cde4e93a64fa321deef34a952cccf83d6fe3ebc", func := "loop.example/g00982/laws.FnBudgets", spec := "fnBudgets", inPlace := ["slices.overlaps[loop.example/g00982/impl.Id]", "slices.overlaps[int]"], unfollowed := true, recurses := true, plainKeys := false, apart := false, narrowed := true }
def FnBudgetsUptoSaid : Prop := fnBudgetsUptoRow.holds Tryz.pinned (OpenSpec.upto fnBudgetsSpec)

/-- 'laws.FnPrefixes', WHERE WHAT IT READS IS OF BULK AT MOST 1048576: true; the input reads as it did. -/
def fnPrefixesUptoRow : OpenClaim := { program := "ytoldpdhhfmlckaagreat", sum := "a8de45c36f177bcce5ae46490cde4e93a64fa321deef34a952cccf83d6fe3ebc", func := "loop.example/g00982/laws.FnPrefixes", spec := "fnPrefixes", inPlace := ["slices.overlaps[loop.example/g00982/impl.Id]", "slices.overlaps[int]"], unfollowed := true, recurses := true, plainKeys := false, apart := false, narrowed := true }
def FnPrefixesUptoSaid : Prop := fnPrefixesUptoRow.holds Tryz.pinned (OpenSpec.upto fnPrefixesSpec)

/-- 'laws.FnCostRuns', WHERE WHAT IT READS IS OF BULK AT MOST 1048576: true; the input reads as it did. -/
def fnCostRunsUptoRow : OpenClaim := { program := "ytoldpdhhfmlckaagreat", sum := "a8de45c36f177bcce5ae46490cde4e93a64fa321deef34a952cccf83d6fe3ebc", func := "loop.example/g00982/laws.FnCostRuns", spec := "fnCostRuns", inPlace := ["slices.overlaps[loop.example/g00982/impl.Id]", "slices.overlaps[int]"], unfollowed := true, recurses := true, plainKeys := false, apart := false, narrowed := true }
def FnCostRunsUptoSaid : Prop := fnCostRunsUptoRow.holds Tryz.pinned (OpenSpec.upto fnCostRunsSpec)

/-- 'laws.FnGauges', WHERE WHAT IT READS IS OF BULK AT MOST 1048576: true; the input reads as it did. -/
def fnGaugesUptoRow : OpenClaim := { program := "ytoldpdhhfmlckaagreat", sum := "a8de45c36f177bcce5ae46490cde4e93a64fa321deef34a952cccf83d6fe3ebc", func := "loop.example/g00982/laws.FnGauges", spec := "fnGauges", inPlace := ["slices.overlaps[loop.example/g00982/impl.Id]", "slices.overlaps[int]"], unfollowed := true, recurses := true, plainKeys := false, apart := false, narrowed := true }
def FnGaugesUptoSaid : Prop := fnGaugesUptoRow.holds Tryz.pinned (OpenSpec.upto fnGaugesSpec)

/-- 'laws.FnExactCostRun', WHERE WHAT IT READS IS OF BULK AT MOST 1048576: true; the input reads as it did. -/
def fnExactCostRunUptoRow : OpenClaim := { program := "ytoldpdhhfmlckaagreat", sum := "a8de45c36f177bcce5ae46490cde4e93a64fa321deef34a952cccf83d6fe3ebc", func := "loop.example/g00982/laws.FnExactCostRun", spec := "fnExactCostRun", inPlace := ["slices.overlaps[loop.example/g00982/impl.Id]", "slices.overlaps[int]"], unfollowed := true, recurses := true, plainKeys := false, apart := false, narrowed := true }
def FnExactCostRunUptoSaid : Prop := fnExactCostRunUptoRow.holds Tryz.pinned (OpenSpec.upto fnExactCostRunSpec)

/-- 'laws.FnWorlds', WHERE WHAT IT READS IS OF BULK AT MOST 1048576: true; the input reads as it did. -/
def fnWorldsUptoRow : OpenClaim := { program := "ytoldpdhhfmlckaagreat", sum := "a8de45c36f177bcce5ae46490cde4e93a64fa321deef34a952cccf83d6fe3ebc", func := "loop.example/g00982/laws.FnWorlds", spec := "fnWorlds", inPlace := ["slices.overlaps[loop.example/g00982/impl.Id]", "slices.overlaps[int]"], unfollowed := true, recurses := true, plainKeys := false, apart := false, narrowed := true }
def FnWorldsUptoSaid : Prop := fnWorldsUptoRow.holds Tryz.pinned (OpenSpec.upto fnWorldsSpec)

/-- 'laws.FnParted', WHERE WHAT IT READS IS OF BULK AT MOST 1048576: true; the input reads as it did. -/
def fnPartedUptoRow : OpenClaim := { program := "ytoldpdhhfmlckaagreat", sum := "a8de45c36f177bcce5ae46490cde4e93a64fa321deef34a952cccf83d6fe3ebc", func := "loop.example/g00982/laws.FnParted", spec := "fnParted", inPlace := ["slices.overlaps[loop.example/g00982/impl.Id]", "slices.overlaps[int]"], unfollowed := true, recurses := true, plainKeys := false, apart := false, narrowed := true }
def FnPartedUptoSaid : Prop := fnPartedUptoRow.holds Tryz.pinned (OpenSpec.upto fnPartedSpec)

/-- 'laws.FnExactGaugeRun', WHERE WHAT IT READS IS OF BULK AT MOST 1048576: true; the input reads as it did. -/
def fnExactGaugeRunUptoRow : OpenClaim := { program := "ytoldpdhhfmlckaagreat", sum := "a8de45c36f177bcce5ae46490cde4e93a64fa321deef34a952cccf83d6fe3ebc", func := "loop.example/g00982/laws.FnExactGaugeRun", spec := "fnExactGaugeRun", inPlace := ["slices.overlaps[loop.example/g00982/impl.Id]", "slices.overlaps[int]"], unfollowed := true, recurses := true, plainKeys := false, apart := false, narrowed := true }
def FnExactGaugeRunUptoSaid : Prop := fnExactGaugeRunUptoRow.holds Tryz.pinned (OpenSpec.upto fnExactGaugeRunSpec)

/-- 'laws.FnExactPartAt', WHERE WHAT IT READS IS OF BULK AT MOST 1048576: true; the input reads as it did. -/
def fnExactPartAtUptoRow : OpenClaim := { program := "ytoldpdhhfmlckaagreat", sum := "a8de45c36f177bcce5ae46490cde4e93a64fa321deef34a952cccf83d6fe3ebc", func := "loop.example/g00982/laws.FnExactPartAt", spec := "fnExactPartAt", inPlace := ["slices.overlaps[loop.example/g00982/impl.Id]", "slices.overlaps[int]"], unfollowed := true, recurses := true, plainKeys := false, apart := false, narrowed := true }
def FnExactPartAtUptoSaid : Prop := fnExactPartAtUptoRow.holds Tryz.pinned (OpenSpec.upto fnExactPartAtSpec)

/-- 'laws.FnSame', WHERE WHAT IT READS IS OF BULK AT MOST 1048576: true; the input reads as it did. -/
def fnSameUptoRow : OpenClaim := { program := "ytoldpdhhfmlckaagreat", sum := "a8de45c36f177bcce5ae46490cde4e93a64fa321deef34a952cccf83d6fe3ebc", func := "loop.example/g00982/laws.FnSame", spec := "fnSame", inPlace := ["slices.overlaps[loop.example/g00982/impl.Id]", "slices.overlaps[int]"], unfollowed := true, recurses := true, plainKeys := false, apart := false, narrowed := true }
def FnSameUptoSaid : Prop := fnSameUptoRow.holds Tryz.pinned (OpenSpec.upto fnSameSpec)

/-- 'laws.FnExactAdvance', WHERE WHAT IT READS IS OF BULK AT MOST 1048576: true; the input reads as it did. -/
def fnExactAdvanceUptoRow : OpenClaim := { program := "ytoldpdhhfmlckaagreat", sum := "a8de45c36f177bcce5ae46490cde4e93a64fa321deef34a952cccf83d6fe3ebc", func := "loop.example/g00982/laws.FnExactAdvance", spec := "fnExactAdvance", inPlace := ["slices.overlaps[loop.example/g00982/impl.Id]", "slices.overlaps[int]"], unfollowed := true, recurses := true, plainKeys := false, apart := false, narrowed := true }
def FnExactAdvanceUptoSaid : Prop := fnExactAdvanceUptoRow.holds Tryz.pinned (OpenSpec.upto fnExactAdvanceSpec)

/-- 'laws.FnExactDoAct', WHERE WHAT IT READS IS OF BULK AT MOST 1048576: true; the input reads as it did. -/
def fnExactDoActUptoRow : OpenClaim := { program := "ytoldpdhhfmlckaagreat", sum := "a8de45c36f177bcce5ae46490cde4e93a64fa321deef34a952cccf83d6fe3ebc", func := "loop.example/g00982/laws.FnExactDoAct", spec := "fnExactDoAct", inPlace := ["slices.overlaps[loop.example/g00982/impl.Id]", "slices.overlaps[int]"], unfollowed := true, recurses := true, plainKeys := false, apart := false, narrowed := true }
def FnExactDoActUptoSaid : Prop := fnExactDoActUptoRow.holds Tryz.pinned (OpenSpec.upto fnExactDoActSpec)

/-- 'laws.FnExactIsReplay', WHERE WHAT IT READS IS OF BULK AT MOST 1048576: true; the input reads as it did. -/
def fnExactIsReplayUptoRow : OpenClaim := { program := "ytoldpdhhfmlckaagreat", sum := "a8de45c36f177bcce5ae46490cde4e93a64fa321deef34a952cccf83d6fe3ebc", func := "loop.example/g00982/laws.FnExactIsReplay", spec := "fnExactIsReplay", inPlace := ["slices.overlaps[loop.example/g00982/impl.Id]", "slices.overlaps[int]"], unfollowed := true, recurses := true, plainKeys := false, apart := false, narrowed := true }
def FnExactIsReplayUptoSaid : Prop := fnExactIsReplayUptoRow.holds Tryz.pinned (OpenSpec.upto fnExactIsReplaySpec)

/-- 'laws.FnExactRunActs', WHERE WHAT IT READS IS OF BULK AT MOST 1048576: true; the input reads as it did. -/
def fnExactRunActsUptoRow : OpenClaim := { program := "ytoldpdhhfmlckaagreat", sum := "a8de45c36f177bcce5ae46490cde4e93a64fa321deef34a952cccf83d6fe3ebc", func := "loop.example/g00982/laws.FnExactRunActs", spec := "fnExactRunActs", inPlace := ["slices.overlaps[loop.example/g00982/impl.Id]", "slices.overlaps[int]"], unfollowed := true, recurses := true, plainKeys := false, apart := false, narrowed := true }
def FnExactRunActsUptoSaid : Prop := fnExactRunActsUptoRow.holds Tryz.pinned (OpenSpec.upto fnExactRunActsSpec)

end Rows
end Go.Proofs.YtoldpdhhfmlckaaGreat
