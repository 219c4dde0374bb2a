/-
  No cell of these rows narrows 'for every input' (looked for: loops, veiled, ifaces, maps, wideKeys, modest, calm, conditions, laid).
  DERIVED. THE GIVEN ROWS OF THIS SEAT. 11 by the template 'for every input the law returns true; each argument reads behind the call as it read before'; 0 by the template 'total and deterministic' (their statements: YtfgccfajhedgdaaTotals.lean).
  GIVEN WITH THE SEED: the statements are not yours to turn. If you find one false, say at which input.
  Laid BY PROGRAM, IN A SANDBOX (cutbox-rows.mjs): the forced cells as the released guide's own fill.sh prints them over the translation 977913d1cb49ec82… (all of the seat's roots in one cut). By AI agents, Wed Nov 11 2026. No macro, syntax, notation, axiom, sorry.
-/
import Derived.Test.YtfgccfajhedgdaaChecked
import GoSem.Claim
import GoSem.ClaimJoined
import GoSem.ClaimMapViews
import Derived.JoinedTies
import Derived.KernelRfl
namespace Go.Proofs.Ytfgccfajhedgdaa
/- THE CELL 'sum', in the pinned program and in every row, IS THE sha256 OF THE DUMP (.gsa) THAT YtfgccfajhedgdaaProg.lean LOADS. Nothing in Lean hashes anything: it is a label: what it is worth is what the hold of that sum in a sandbox is worth. -/
noncomputable def Try.pinned : Pinned := { name := "ytfgccfajhedgdaa", sum := "977913d1cb49ec821b6c7d1cfe9208db46cea1e19cc09addac43799f331c1523", checked := Try.checked }
namespace Rows
def none {H : Type} : Left H := { results := [], args := [] }

/-- 'laws.FnExactCutChannel': WHATEVER THE INPUT: true; the input reads as it did. -/
def fnExactCutChannelSpec : ChangeSpec := { name := "fnExactCutChannel", fn := fun _ => fun
  | [d1, d2] => { results := [.lit (.bool true)], args := [d1, d2] }
  | _ => none }
def fnExactCutChannelRow : OpenClaim := { program := "ytfgccfajhedgdaa", sum := "977913d1cb49ec821b6c7d1cfe9208db46cea1e19cc09addac43799f331c1523", func := "loop.example/g00982/laws.FnExactCutChannel", spec := "fnExactCutChannel", unfollowed := true, recurses := true, plainKeys := false, apart := false }
def FnExactCutChannelSaid : Prop := fnExactCutChannelRow.holds Try.pinned (OpenSpec.ofChange fnExactCutChannelSpec)

/-- ITS FALSE NEIGHBOUR: 'it returns false'. Refute it at one input. -/
def fnExactCutChannelWrong : ChangeSpec := { name := "fnExactCutChannel", fn := fun _ => fun
  | [d1, d2] => { results := [.lit (.bool false)], args := [d1, d2] }
  | _ => none }
def FnExactCutChannelWrongFalsely : Prop := fnExactCutChannelRow.holds Try.pinned (OpenSpec.ofChange fnExactCutChannelWrong)

/-- 'laws.FnExactWorldOk': WHATEVER THE INPUT: true; the input reads as it did. -/
def fnExactWorldOkSpec : ChangeSpec := { name := "fnExactWorldOk", fn := fun _ => fun
  | [d] => { results := [.lit (.bool true)], args := [d] }
  | _ => none }
def fnExactWorldOkRow : OpenClaim := { program := "ytfgccfajhedgdaa", sum := "977913d1cb49ec821b6c7d1cfe9208db46cea1e19cc09addac43799f331c1523", func := "loop.example/g00982/laws.FnExactWorldOk", spec := "fnExactWorldOk", unfollowed := true, recurses := true, plainKeys := false, apart := false }
def FnExactWorldOkSaid : Prop := fnExactWorldOkRow.holds Try.pinned (OpenSpec.ofChange fnExactWorldOkSpec)

/-- ITS FALSE NEIGHBOUR: 'it returns false'. Refute it at one input. -/
def fnExactWorldOkWrong : ChangeSpec := { name := "fnExactWorldOk", fn := fun _ => fun
  | [d] => { results := [.lit (.bool false)], args := [d] }
  | _ => none }
def FnExactWorldOkWrongFalsely : Prop := fnExactWorldOkRow.holds Try.pinned (OpenSpec.ofChange fnExactWorldOkWrong)

/-- 'laws.FnExactJoinChannels': WHATEVER THE INPUT: true; the input reads as it did. -/
def fnExactJoinChannelsSpec : ChangeSpec := { name := "fnExactJoinChannels", fn := fun _ => fun
  | [d1, d2] => { results := [.lit (.bool true)], args := [d1, d2] }
  | _ => none }
def fnExactJoinChannelsRow : OpenClaim := { program := "ytfgccfajhedgdaa", sum := "977913d1cb49ec821b6c7d1cfe9208db46cea1e19cc09addac43799f331c1523", func := "loop.example/g00982/laws.FnExactJoinChannels", spec := "fnExactJoinChannels", unfollowed := true, recurses := true, plainKeys := false, apart := false }
def FnExactJoinChannelsSaid : Prop := fnExactJoinChannelsRow.holds Try.pinned (OpenSpec.ofChange fnExactJoinChannelsSpec)

/-- ITS FALSE NEIGHBOUR: 'it returns false'. Refute it at one input. -/
def fnExactJoinChannelsWrong : ChangeSpec := { name := "fnExactJoinChannels", fn := fun _ => fun
  | [d1, d2] => { results := [.lit (.bool false)], args := [d1, d2] }
  | _ => none }
def FnExactJoinChannelsWrongFalsely : Prop := fnExactJoinChannelsRow.holds Try.pinned (OpenSpec.ofChange fnExactJoinChannelsWrong)

/-- 'laws.FnExactWriteFrame': WHATEVER THE INPUT: true; the input reads as it did. -/
def fnExactWriteFrameSpec : ChangeSpec := { name := "fnExactWriteFrame", fn := fun _ => fun
  | [d1, d2, d3] => { results := [.lit (.bool true)], args := [d1, d2, d3] }
  | _ => none }
def fnExactWriteFrameRow : OpenClaim := { program := "ytfgccfajhedgdaa", sum := "977913d1cb49ec821b6c7d1cfe9208db46cea1e19cc09addac43799f331c1523", func := "loop.example/g00982/laws.FnExactWriteFrame", spec := "fnExactWriteFrame", unfollowed := true, recurses := true, plainKeys := false, apart := false }
def FnExactWriteFrameSaid : Prop := fnExactWriteFrameRow.holds Try.pinned (OpenSpec.ofChange fnExactWriteFrameSpec)

/-- ITS FALSE NEIGHBOUR: 'it returns false'. Refute it at one input. -/
def fnExactWriteFrameWrong : ChangeSpec := { name := "fnExactWriteFrame", fn := fun _ => fun
  | [d1, d2, d3] => { results := [.lit (.bool false)], args := [d1, d2, d3] }
  | _ => none }
def FnExactWriteFrameWrongFalsely : Prop := fnExactWriteFrameRow.holds Try.pinned (OpenSpec.ofChange fnExactWriteFrameWrong)

/-- 'laws.FnExactWorldNew': WHATEVER THE INPUT: true; the input reads as it did. -/
def fnExactWorldNewSpec : ChangeSpec := { name := "fnExactWorldNew", fn := fun _ => fun
  | [d1, d2] => { results := [.lit (.bool true)], args := [d1, d2] }
  | _ => none }
def fnExactWorldNewRow : OpenClaim := { program := "ytfgccfajhedgdaa", sum := "977913d1cb49ec821b6c7d1cfe9208db46cea1e19cc09addac43799f331c1523", func := "loop.example/g00982/laws.FnExactWorldNew", spec := "fnExactWorldNew", unfollowed := true, recurses := true, plainKeys := false, apart := false }
def FnExactWorldNewSaid : Prop := fnExactWorldNewRow.holds Try.pinned (OpenSpec.ofChange fnExactWorldNewSpec)

/-- ITS FALSE NEIGHBOUR: 'it returns false'. Refute it at one input. -/
def fnExactWorldNewWrong : ChangeSpec := { name := "fnExactWorldNew", fn := fun _ => fun
  | [d1, d2] => { results := [.lit (.bool false)], args := [d1, d2] }
  | _ => none }
def FnExactWorldNewWrongFalsely : Prop := fnExactWorldNewRow.holds Try.pinned (OpenSpec.ofChange fnExactWorldNewWrong)

/-- 'laws.FnCoupled': WHATEVER THE INPUT: true; the input reads as it did. -/
def fnCoupledSpec : ChangeSpec := { name := "fnCoupled", fn := fun _ => fun
  | [d] => { results := [.lit (.bool true)], args := [d] }
  | _ => none }
def fnCoupledRow : OpenClaim := { program := "ytfgccfajhedgdaa", sum := "977913d1cb49ec821b6c7d1cfe9208db46cea1e19cc09addac43799f331c1523", func := "loop.example/g00982/laws.FnCoupled", spec := "fnCoupled", unfollowed := true, recurses := true, plainKeys := false, apart := false }
def FnCoupledSaid : Prop := fnCoupledRow.holds Try.pinned (OpenSpec.ofChange fnCoupledSpec)

/-- ITS FALSE NEIGHBOUR: 'it returns false'. Refute it at one input. -/
def fnCoupledWrong : ChangeSpec := { name := "fnCoupled", fn := fun _ => fun
  | [d] => { results := [.lit (.bool false)], args := [d] }
  | _ => none }
def FnCoupledWrongFalsely : Prop := fnCoupledRow.holds Try.pinned (OpenSpec.ofChange fnCoupledWrong)

/-- 'laws.FnDistances': WHATEVER THE INPUT: true; the input reads as it did. -/
def fnDistancesSpec : ChangeSpec := { name := "fnDistances", fn := fun _ => fun
  | [d] => { results := [.lit (.bool true)], args := [d] }
  | _ => none }
def fnDistancesRow : OpenClaim := { program := "ytfgccfajhedgdaa", sum := "977913d1cb49ec821b6c7d1cfe9208db46cea1e19cc09addac43799f331c1523", func := "loop.example/g00982/laws.FnDistances", spec := "fnDistances", inPlace := ["slices.overlaps[loop.example/g00982/impl.Id]", "slices.overlaps[int]"], unfollowed := true, recurses := true, plainKeys := false, apart := false }
def FnDistancesSaid : Prop := fnDistancesRow.holds Try.pinned (OpenSpec.ofChange fnDistancesSpec)

/-- ITS FALSE NEIGHBOUR: 'it returns false'. Refute it at one input. -/
def fnDistancesWrong : ChangeSpec := { name := "fnDistances", fn := fun _ => fun
  | [d] => { results := [.lit (.bool false)], args := [d] }
  | _ => none }
def FnDistancesWrongFalsely : Prop := fnDistancesRow.holds Try.pinned (OpenSpec.ofChange fnDistancesWrong)

/-- 'laws.FnExactDrop': WHATEVER THE INPUT: true; the input reads as it did. -/
def fnExactDropSpec : ChangeSpec := { name := "fnExactDrop", fn := fun _ => fun
  | [d1, d2, d3, d4] => { results := [.lit (.bool true)], args := [d1, d2, d3, d4] }
  | _ => none }
def fnExactDropRow : OpenClaim := { program := "ytfgccfajhedgdaa", sum := "977913d1cb49ec821b6c7d1cfe9208db46cea1e19cc09addac43799f331c1523", func := "loop.example/g00982/laws.FnExactDrop", spec := "fnExactDrop", unfollowed := true, recurses := true, plainKeys := false, apart := false }
def FnExactDropSaid : Prop := fnExactDropRow.holds Try.pinned (OpenSpec.ofChange fnExactDropSpec)

/-- ITS FALSE NEIGHBOUR: 'it returns false'. Refute it at one input. -/
def fnExactDropWrong : ChangeSpec := { name := "fnExactDrop", fn := fun _ => fun
  | [d1, d2, d3, d4] => { results := [.lit (.bool false)], args := [d1, d2, d3, d4] }
  | _ => none }
def FnExactDropWrongFalsely : Prop := fnExactDropRow.holds Try.pinned (OpenSpec.ofChange fnExactDropWrong)

/-- 'laws.FnUniform': WHATEVER THE INPUT: true; the input reads as it did. -/
def fnUniformSpec : ChangeSpec := { name := "fnUniform", fn := fun _ => fun
  | [d] => { results := [.lit (.bool true)], args := [d] }
  | _ => none }
def fnUniformRow : OpenClaim := { program := "ytfgccfajhedgdaa", sum := "977913d1cb49ec821b6c7d1cfe9208db46cea1e19cc09addac43799f331c1523", func := "loop.example/g00982/laws.FnUniform", spec := "fnUniform", inPlace := ["slices.overlaps[loop.example/g00982/impl.Id]", "slices.overlaps[int]"], unfollowed := true, recurses := true, plainKeys := false, apart := false }
def FnUniformSaid : Prop := fnUniformRow.holds Try.pinned (OpenSpec.ofChange fnUniformSpec)

/-- ITS FALSE NEIGHBOUR: 'it returns false'. Refute it at one input. -/
def fnUniformWrong : ChangeSpec := { name := "fnUniform", fn := fun _ => fun
  | [d] => { results := [.lit (.bool false)], args := [d] }
  | _ => none }
def FnUniformWrongFalsely : Prop := fnUniformRow.holds Try.pinned (OpenSpec.ofChange fnUniformWrong)

/-- 'laws.FnExactCoupledStep': WHATEVER THE INPUT: true; the input reads as it did. -/
def fnExactCoupledStepSpec : ChangeSpec := { name := "fnExactCoupledStep", fn := fun _ => fun
  | [d1, d2, d3] => { results := [.lit (.bool true)], args := [d1, d2, d3] }
  | _ => none }
def fnExactCoupledStepRow : OpenClaim := { program := "ytfgccfajhedgdaa", sum := "977913d1cb49ec821b6c7d1cfe9208db46cea1e19cc09addac43799f331c1523", func := "loop.example/g00982/laws.FnExactCoupledStep", spec := "fnExactCoupledStep", unfollowed := true, recurses := true, plainKeys := false, apart := false }
def FnExactCoupledStepSaid : Prop := fnExactCoupledStepRow.holds Try.pinned (OpenSpec.ofChange fnExactCoupledStepSpec)

/-- ITS FALSE NEIGHBOUR: 'it returns false'. Refute it at one input. -/
def fnExactCoupledStepWrong : ChangeSpec := { name := "fnExactCoupledStep", fn := fun _ => fun
  | [d1, d2, d3] => { results := [.lit (.bool false)], args := [d1, d2, d3] }
  | _ => none }
def FnExactCoupledStepWrongFalsely : Prop := fnExactCoupledStepRow.holds Try.pinned (OpenSpec.ofChange fnExactCoupledStepWrong)

/-- 'laws.FnExactTuneHigh': WHATEVER THE INPUT: true; the input reads as it did. -/
def fnExactTuneHighSpec : ChangeSpec := { name := "fnExactTuneHigh", fn := fun _ => fun
  | [d1, d2, d3] => { results := [.lit (.bool true)], args := [d1, d2, d3] }
  | _ => none }
def fnExactTuneHighRow : OpenClaim := { program := "ytfgccfajhedgdaa", sum := "977913d1cb49ec821b6c7d1cfe9208db46cea1e19cc09addac43799f331c1523", func := "loop.example/g00982/laws.FnExactTuneHigh", spec := "fnExactTuneHigh", inPlace := ["slices.overlaps[loop.example/g00982/impl.Id]", "slices.overlaps[int]"], unfollowed := true, recurses := true, plainKeys := false, apart := false }
def FnExactTuneHighSaid : Prop := fnExactTuneHighRow.holds Try.pinned (OpenSpec.ofChange fnExactTuneHighSpec)

/-- ITS FALSE NEIGHBOUR: 'it returns false'. Refute it at one input. -/
def fnExactTuneHighWrong : ChangeSpec := { name := "fnExactTuneHigh", fn := fun _ => fun
  | [d1, d2, d3] => { results := [.lit (.bool false)], args := [d1, d2, d3] }
  | _ => none }
def FnExactTuneHighWrongFalsely : Prop := fnExactTuneHighRow.holds Try.pinned (OpenSpec.ofChange fnExactTuneHighWrong)

/- THE SECOND FORM. 'bulk': how many values and letters a reading holds, each counted each time it is reached (what is shared counts as often as it is met; a slice's spare places count too). A statement '..UptoSaid' is the law's where the arguments, and the package variables that the reading takes, are together of bulk at most 1048576: NARROWER than '..Said'. Prove '..Said' where nothing that the law and all that it calls make is longer than what came in: it says more and counts as full. Else prove '..UptoSaid'. A law counts once. -/
mutual
def uptoBulk {H : Type} : DataW H → Nat
  | .lit (.string bytes) => bytes.length + 1
  | .lit _ => 1
  | .nil => 1
  | .ptr d => uptoBulk d + 1
  | .slice elems spare => uptoBulkAll elems + uptoBulkAll spare + 1
  | .agg parts => uptoBulkAll parts + 1
  | .iface _ d => uptoBulk d + 1
  | .map entries => uptoBulkEntries entries + 1
  | .held _ => 1
def uptoBulkAll {H : Type} : List (DataW H) → Nat
  | [] => 0
  | d :: r => uptoBulk d + uptoBulkAll r
def uptoBulkEntries {H : Type} : List (Lit × DataW H) → Nat
  | [] => 0
  | x :: r => uptoBulkEntry x + uptoBulkEntries r
def uptoBulkEntry {H : Type} : Lit × DataW H → Nat
  | (.string bytes, d) => bytes.length + uptoBulk d + 1
  | (_, d) => uptoBulk d + 1
 end
def uptoSmall : (H : Type) → List (DataW H) → Bool := fun _ ds => decide (uptoBulkAll ds ≤ 1048576)
def OpenSpec.upto (s : _root_.Go.ChangeSpec) : _root_.Go.OpenSpec := { _root_.Go.OpenSpec.ofChange s with cond := some uptoSmall }

/-- 'laws.FnExactCutChannel', WHERE WHAT IT READS IS OF BULK AT MOST 1048576: true; the input reads as it did. -/
def fnExactCutChannelUptoRow : OpenClaim := { program := "ytfgccfajhedgdaa", sum := "977913d1cb49ec821b6c7d1cfe9208db46cea1e19cc09addac43799f331c1523", func := "loop.example/g00982/laws.FnExactCutChannel", spec := "fnExactCutChannel", unfollowed := true, recurses := true, plainKeys := false, apart := false, narrowed := true }
def FnExactCutChannelUptoSaid : Prop := fnExactCutChannelUptoRow.holds Try.pinned (OpenSpec.upto fnExactCutChannelSpec)

/-- 'laws.FnExactWorldOk', WHERE WHAT IT READS IS OF BULK AT MOST 1048576: true; the input reads as it did. -/
def fnExactWorldOkUptoRow : OpenClaim := { program := "ytfgccfajhedgdaa", sum := "977913d1cb49ec821b6c7d1cfe9208db46cea1e19cc09addac43799f331c1523", func := "loop.example/g00982/laws.FnExactWorldOk", spec := "fnExactWorldOk", unfollowed := true, recurses := true, plainKeys := false, apart := false, narrowed := true }
def FnExactWorldOkUptoSaid : Prop := fnExactWorldOkUptoRow.holds Try.pinned (OpenSpec.upto fnExactWorldOkSpec)

/-- 'laws.FnExactJoinChannels', WHERE WHAT IT READS IS OF BULK AT MOST 1048576: true; the input reads as it did. -/
def fnExactJoinChannelsUptoRow : OpenClaim := { program := "ytfgccfajhedgdaa", sum := "977913d1cb49ec821b6c7d1cfe9208db46cea1e19cc09addac43799f331c1523", func := "loop.example/g00982/laws.FnExactJoinChannels", spec := "fnExactJoinChannels", unfollowed := true, recurses := true, plainKeys := false, apart := false, narrowed := true }
def FnExactJoinChannelsUptoSaid : Prop := fnExactJoinChannelsUptoRow.holds Try.pinned (OpenSpec.upto fnExactJoinChannelsSpec)

/-- 'laws.FnExactWriteFrame', WHERE WHAT IT READS IS OF BULK AT MOST 1048576: true; the input reads as it did. -/
def fnExactWriteFrameUptoRow : OpenClaim := { program := "ytfgccfajhedgdaa", sum := "977913d1cb49ec821b6c7d1cfe9208db46cea1e19cc09addac43799f331c1523", func := "loop.example/g00982/laws.FnExactWriteFrame", spec := "fnExactWriteFrame", unfollowed := true, recurses := true, plainKeys := false, apart := false, narrowed := true }
def FnExactWriteFrameUptoSaid : Prop := fnExactWriteFrameUptoRow.holds Try.pinned (OpenSpec.upto fnExactWriteFrameSpec)

/-- 'laws.FnExactWorldNew', WHERE WHAT IT READS IS OF BULK AT MOST 1048576: true; the input reads as it did. -/
def fnExactWorldNewUptoRow : OpenClaim := { program := "ytfgccfajhedgdaa", sum := "977913d1cb49ec821b6c7d1cfe9208db46cea1e19cc09addac43799f331c1523", func := "loop.example/g00982/laws.FnExactWorldNew", spec := "fnExactWorldNew", unfollowed := true, recurses := true, plainKeys := false, apart := false, narrowed := true }
def FnExactWorldNewUptoSaid : Prop := fnExactWorldNewUptoRow.holds Try.pinned (OpenSpec.upto fnExactWorldNewSpec)

/-- 'laws.FnCoupled', WHERE WHAT IT READS IS OF BULK AT MOST 1048576: true; the input reads as it did. -/
def fnCoupledUptoRow : OpenClaim := { program := "ytfgccfajhedgdaa", sum := "977913d1cb49ec821b6c7d1cfe9208db46cea1e19cc09addac43799f331c1523", func := "loop.example/g00982/laws.FnCoupled", spec := "fnCoupled", unfollowed := true, recurses := true, plainKeys := false, apart := false, narrowed := true }
def FnCoupledUptoSaid : Prop := fnCoupledUptoRow.holds Try.pinned (OpenSpec.upto fnCoupledSpec)

/-- 'laws.FnDistances', WHERE WHAT IT READS IS OF BULK AT MOST 1048576: true; the input reads as it did. -/
def fnDistancesUptoRow : OpenClaim := { program := "ytfgccfajhedgdaa", sum := "977913d1cb49ec821b6c7d1cfe9208db46cea1e19cc09addac43799f331c1523", func := "loop.example/g00982/laws.FnDistances", spec := "fnDistances", inPlace := ["slices.overlaps[loop.example/g00982/impl.Id]", "slices.overlaps[int]"], unfollowed := true, recurses := true, plainKeys := false, apart := false, narrowed := true }
def FnDistancesUptoSaid : Prop := fnDistancesUptoRow.holds Try.pinned (OpenSpec.upto fnDistancesSpec)

/-- 'laws.FnExactDrop', WHERE WHAT IT READS IS OF BULK AT MOST 1048576: true; the input reads as it did. -/
def fnExactDropUptoRow : OpenClaim := { program := "ytfgccfajhedgdaa", sum := "977913d1cb49ec821b6c7d1cfe9208db46cea1e19cc09addac43799f331c1523", func := "loop.example/g00982/laws.FnExactDrop", spec := "fnExactDrop", unfollowed := true, recurses := true, plainKeys := false, apart := false, narrowed := true }
def FnExactDropUptoSaid : Prop := fnExactDropUptoRow.holds Try.pinned (OpenSpec.upto fnExactDropSpec)

/-- 'laws.FnUniform', WHERE WHAT IT READS IS OF BULK AT MOST 1048576: true; the input reads as it did. -/
def fnUniformUptoRow : OpenClaim := { program := "ytfgccfajhedgdaa", sum := "977913d1cb49ec821b6c7d1cfe9208db46cea1e19cc09addac43799f331c1523", func := "loop.example/g00982/laws.FnUniform", spec := "fnUniform", inPlace := ["slices.overlaps[loop.example/g00982/impl.Id]", "slices.overlaps[int]"], unfollowed := true, recurses := true, plainKeys := false, apart := false, narrowed := true }
def FnUniformUptoSaid : Prop := fnUniformUptoRow.holds Try.pinned (OpenSpec.upto fnUniformSpec)

/-- 'laws.FnExactCoupledStep', WHERE WHAT IT READS IS OF BULK AT MOST 1048576: true; the input reads as it did. -/
def fnExactCoupledStepUptoRow : OpenClaim := { program := "ytfgccfajhedgdaa", sum := "977913d1cb49ec821b6c7d1cfe9208db46cea1e19cc09addac43799f331c1523", func := "loop.example/g00982/laws.FnExactCoupledStep", spec := "fnExactCoupledStep", unfollowed := true, recurses := true, plainKeys := false, apart := false, narrowed := true }
def FnExactCoupledStepUptoSaid : Prop := fnExactCoupledStepUptoRow.holds Try.pinned (OpenSpec.upto fnExactCoupledStepSpec)

/-- 'laws.FnExactTuneHigh', WHERE WHAT IT READS IS OF BULK AT MOST 1048576: true; the input reads as it did. -/
def fnExactTuneHighUptoRow : OpenClaim := { program := "ytfgccfajhedgdaa", sum := "977913d1cb49ec821b6c7d1cfe9208db46cea1e19cc09addac43799f331c1523", func := "loop.example/g00982/laws.FnExactTuneHigh", spec := "fnExactTuneHigh", inPlace := ["slices.overlaps[loop.example/g00982/impl.Id]", "slices.overlaps[int]"], unfollowed := true, recurses := true, plainKeys := false, apart := false, narrowed := true }
def FnExactTuneHighUptoSaid : Prop := fnExactTuneHighUptoRow.holds Try.pinned (OpenSpec.upto fnExactTuneHighSpec)

end Rows
end Go.Proofs.Ytfgccfajhedgdaa
