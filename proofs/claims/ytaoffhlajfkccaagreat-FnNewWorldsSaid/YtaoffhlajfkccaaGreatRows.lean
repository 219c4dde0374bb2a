/-
  No cell of these rows narrows 'for every input' (looked for: loops, veiled, ifaces, maps, wideKeys, modest, calm, conditions, laid).
  DERIVED. THE GIVEN ROWS OF THIS SEAT. 3 by the template 'for every input the law returns true; each argument reads behind the call as it read before'; 0 by the template 'total and deterministic' (their statements: YtaoffhlajfkccaaGreatTotals.lean).
  GIVEN WITH THE SEED: the statements are not yours to turn. If you find one false, say at which input.
  Laid BY PROGRAM, IN A SANDBOX (cutbox-rows.mjs): the forced cells as the released guide's own fill.sh prints them over the translation f66cb23edb56c35a… (all of the seat's roots in one cut). By AI agents, Wed Nov 11 2026. No macro, syntax, notation, axiom, sorry.
-/
import Derived.Test.YtaoffhlajfkccaaGreatChecked
import GoSem.Claim
import GoSem.ClaimJoined
import GoSem.ClaimMapViews
import Derived.JoinedTies
import Derived.KernelRfl
namespace Go.Proofs.YtaoffhlajfkccaaGreat
/- THE CELL 'sum', in the pinned program and in every row, IS THE sha256 OF THE DUMP (.gsa) THAT YtaoffhlajfkccaaGreatProg.lean LOADS. Nothing in Lean hashes anything: it is a label: what it is worth is what the hold of that sum in a sandbox is worth. -/
noncomputable def Tryz.pinned : Pinned := { name := "ytaoffhlajfkccaagreat", sum := "f66cb23edb56c35a7ce27fca38d902a9d3b3c3635e9ac886572f2bd8e7ba6efb", checked := Tryz.checked }
namespace Rows
def none {H : Type} : Left H := { results := [], args := [] }

/-- 'laws.FnNewWorlds': WHATEVER THE INPUT: true; the input reads as it did. -/
def fnNewWorldsSpec : ChangeSpec := { name := "fnNewWorlds", fn := fun _ => fun
  | [d] => { results := [.lit (.bool true)], args := [d] }
  | _ => none }
def fnNewWorldsRow : OpenClaim := { program := "ytaoffhlajfkccaagreat", sum := "f66cb23edb56c35a7ce27fca38d902a9d3b3c3635e9ac886572f2bd8e7ba6efb", func := "loop.example/g00982/laws.FnNewWorlds", spec := "fnNewWorlds", inPlace := ["slices.overlaps[loop.example/g00982/impl.Id]", "slices.overlaps[int]"], unfollowed := true, recurses := true, plainKeys := false, apart := false }
def FnNewWorldsSaid : Prop := fnNewWorldsRow.holds Tryz.pinned (OpenSpec.ofChange fnNewWorldsSpec)

/-- ITS FALSE NEIGHBOUR: 'it returns false'. Refute it at one input. -/
def fnNewWorldsWrong : ChangeSpec := { name := "fnNewWorlds", fn := fun _ => fun
  | [d] => { results := [.lit (.bool false)], args := [d] }
  | _ => none }
def FnNewWorldsWrongFalsely : Prop := fnNewWorldsRow.holds Tryz.pinned (OpenSpec.ofChange fnNewWorldsWrong)

/-- 'laws.FnExactCostRun': WHATEVER THE INPUT: true; the input reads as it did. -/
def fnExactCostRunSpec : ChangeSpec := { name := "fnExactCostRun", fn := fun _ => fun
  | [d1, d2, d3] => { results := [.lit (.bool true)], args := [d1, d2, d3] }
  | _ => none }
def fnExactCostRunRow : OpenClaim := { program := "ytaoffhlajfkccaagreat", sum := "f66cb23edb56c35a7ce27fca38d902a9d3b3c3635e9ac886572f2bd8e7ba6efb", func := "loop.example/g00982/laws.FnExactCostRun", spec := "fnExactCostRun", inPlace := ["slices.overlaps[loop.example/g00982/impl.Id]", "slices.overlaps[int]"], unfollowed := true, recurses := true, plainKeys := false, apart := false }
def FnExactCostRunSaid : Prop := fnExactCostRunRow.holds Tryz.pinned (OpenSpec.ofChange fnExactCostRunSpec)

/-- ITS FALSE NEIGHBOUR: 'it returns false'. Refute it at one input. -/
def fnExactCostRunWrong : ChangeSpec := { name := "fnExactCostRun", fn := fun _ => fun
  | [d1, d2, d3] => { results := [.lit (.bool false)], args := [d1, d2, d3] }
  | _ => none }
def FnExactCostRunWrongFalsely : Prop := fnExactCostRunRow.holds Tryz.pinned (OpenSpec.ofChange fnExactCostRunWrong)

/-- 'laws.FnExactAdvance': WHATEVER THE INPUT: true; the input reads as it did. -/
def fnExactAdvanceSpec : ChangeSpec := { name := "fnExactAdvance", fn := fun _ => fun
  | [d1, d2] => { results := [.lit (.bool true)], args := [d1, d2] }
  | _ => none }
def fnExactAdvanceRow : OpenClaim := { program := "ytaoffhlajfkccaagreat", sum := "f66cb23edb56c35a7ce27fca38d902a9d3b3c3635e9ac886572f2bd8e7ba6efb", func := "loop.example/g00982/laws.FnExactAdvance", spec := "fnExactAdvance", inPlace := ["slices.overlaps[loop.example/g00982/impl.Id]", "slices.overlaps[int]"], unfollowed := true, recurses := true, plainKeys := false, apart := false }
def FnExactAdvanceSaid : Prop := fnExactAdvanceRow.holds Tryz.pinned (OpenSpec.ofChange fnExactAdvanceSpec)

/-- ITS FALSE NEIGHBOUR: 'it returns false'. Refute it at one input. -/
def fnExactAdvanceWrong : ChangeSpec := { name := "fnExactAdvance", fn := fun _ => fun
  | [d1, d2] => { results := [.lit (.bool false)], args := [d1, d2] }
  | _ => none }
def FnExactAdvanceWrongFalsely : Prop := fnExactAdvanceRow.holds Tryz.pinned (OpenSpec.ofChange fnExactAdvanceWrong)

/- THE SECOND FORM. 'bulk': how many values and letters a reading holds, each counted each time it is reached (what is shared counts as often as it is met; a slice's spare places count too). A statement '..UptoSaid' is the law's where the arguments, and the package variables that the reading takes, are together of bulk at most 1048576: NARROWER than '..Said'. Prove '..Said' where nothing that the law and all that it calls make is longer than what came in: it says more and counts as full. Else prove '..UptoSaid'. A law counts once. -/
mutual
def uptoBulk {H : Type} : DataW H → Nat
  | .lit (.string bytes) => bytes.length + 1
  | .lit _ => 1
  | .nil => 1
  | .ptr d => uptoBulk d + 1
  | .slice elems spare => uptoBulkAll elems + uptoBulkAll spare + 1
  | .agg parts => uptoBulkAll parts + 1
  | .iface _ d => uptoBulk d + 1
  | .map entries => uptoBulkEntries entries + 1
  | .held _ => 1
def uptoBulkAll {H : Type} : List (DataW H) → Nat
  | [] => 0
  | d :: r => uptoBulk d + uptoBulkAll r
def uptoBulkEntries {H : Type} : List (Lit × DataW H) → Nat
  | [] => 0
  | x :: r => uptoBulkEntry x + uptoBulkEntries r
def uptoBulkEntry {H : Type} : Lit × DataW H → Nat
  | (.string bytes, d) => bytes.length + uptoBulk d + 1
  | (_, d) => uptoBulk d + 1
 end
def uptoSmall : (H : Type) → List (DataW H) → Bool := fun _ ds => decide (uptoBulkAll ds ≤ 1048576)
def OpenSpec.upto (s : _root_.Go.ChangeSpec) : _root_.Go.OpenSpec := { _root_.Go.OpenSpec.ofChange s with cond := some uptoSmall }

/-- 'laws.FnNewWorlds', WHERE WHAT IT READS IS OF BULK AT MOST 1048576: true; the input reads as it did. -/
def fnNewWorldsUptoRow : OpenClaim := { program := "ytaoffhlajfkccaagreat", sum := "f66cb23edb56c35a7ce27fca38d902a9d3b3c3635e9ac886572f2bd8e7ba6efb", func := "loop.example/g00982/laws.FnNewWorlds", spec := "fnNewWorlds", inPlace := ["slices.overlaps[loop.example/g00982/impl.Id]", "slices.overlaps[int]"], unfollowed := true, recurses := true, plainKeys := false, apart := false, narrowed := true }
def FnNewWorldsUptoSaid : Prop := fnNewWorldsUptoRow.holds Tryz.pinned (OpenSpec.upto fnNewWorldsSpec)

/-- 'laws.FnExactCostRun', WHERE WHAT IT READS IS OF BULK AT MOST 1048576: true; the input reads as it did. -/
def fnExactCostRunUptoRow : OpenClaim := { program := "ytaoffhlajfkccaagreat", sum := "f66cb23edb56c35a7ce27fca38d902a9d3b3c3635e9ac886572f2bd8e7ba6efb", func := "loop.example/g00982/laws.FnExactCostRun", spec := "fnExactCostRun", inPlace := ["slices.overlaps[loop.example/g00982/impl.Id]", "slices.overlaps[int]"], unfollowed := true, recurses := true, plainKeys := false, apart := false, narrowed := true }
def FnExactCostRunUptoSaid : Prop := fnExactCostRunUptoRow.holds Tryz.pinned (OpenSpec.upto fnExactCostRunSpec)

/-- 'laws.FnExactAdvance', WHERE WHAT IT READS IS OF BULK AT MOST 1048576: true; the input reads as it did. -/
def fnExactAdvanceUptoRow : OpenClaim := { program := "ytaoffhlajfkccaagreat", sum := "f66cb23edb56c35a7ce27fca38d902a9d3b3c3635e9ac886572f2bd8e7ba6efb", func := "loop.example/g00982/laws.FnExactAdvance", spec := "fnExactAdvance", inPlace := ["slices.overlaps[loop.example/g00982/impl.Id]", "slices.overlaps[int]"], unfollowed := true, recurses := true, plainKeys := false, apart := false, narrowed := true }
def FnExactAdvanceUptoSaid : Prop := fnExactAdvanceUptoRow.holds Tryz.pinned (OpenSpec.upto fnExactAdvanceSpec)

end Rows
end Go.Proofs.YtaoffhlajfkccaaGreat
