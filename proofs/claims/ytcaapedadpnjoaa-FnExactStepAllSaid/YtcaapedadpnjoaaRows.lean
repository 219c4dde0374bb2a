/-
  No cell of these rows narrows 'for every input' (looked for: loops, veiled, ifaces, maps, wideKeys, modest, calm, conditions, laid).
  DERIVED. THE GIVEN ROWS OF THIS SEAT. 6 by the template 'for every input the law returns true; each argument reads behind the call as it read before'; 0 by the template 'total and deterministic' (their statements: YtcaapedadpnjoaaTotals.lean).
  GIVEN WITH THE SEED: the statements are not yours to turn. If you find one false, say at which input.
  Laid BY PROGRAM, IN A SANDBOX (cutbox-rows.mjs): the forced cells as the released guide's own fill.sh prints them over the translation 2d697992a0ac942c… (all of the seat's roots in one cut). By AI agents, Wed Nov 11 2026. No macro, syntax, notation, axiom, sorry.
-/
import Derived.Test.YtcaapedadpnjoaaChecked
import GoSem.Claim
import GoSem.ClaimJoined
import GoSem.ClaimMapViews
import Derived.JoinedTies
import Derived.KernelRfl
namespace Go.Proofs.Ytcaapedadpnjoaa
/- THE CELL 'sum', in the pinned program and in every row, IS THE sha256 OF THE DUMP (.gsa) THAT YtcaapedadpnjoaaProg.lean LOADS. Nothing in Lean hashes anything: it is a label: what it is worth is what the hold of that sum in a sandbox is worth. -/
noncomputable def Try.pinned : Pinned := { name := "ytcaapedadpnjoaa", sum := "2d697992a0ac942c1a7a3268f00b9b0ff7477a8bee6cd976317a044229419bea", checked := Try.checked }
namespace Rows
def none {H : Type} : Left H := { results := [], args := [] }

/-- 'laws.FnEnvelopes': WHATEVER THE INPUT: true; the input reads as it did. -/
def fnEnvelopesSpec : ChangeSpec := { name := "fnEnvelopes", fn := fun _ => fun
  | [d] => { results := [.lit (.bool true)], args := [d] }
  | _ => none }
def fnEnvelopesRow : OpenClaim := { program := "ytcaapedadpnjoaa", sum := "2d697992a0ac942c1a7a3268f00b9b0ff7477a8bee6cd976317a044229419bea", func := "loop.example/g00982/laws.FnEnvelopes", spec := "fnEnvelopes", unfollowed := true, recurses := true, apart := false }
def FnEnvelopesSaid : Prop := fnEnvelopesRow.holds Try.pinned (OpenSpec.ofChange fnEnvelopesSpec)

/-- ITS FALSE NEIGHBOUR: 'it returns false'. Refute it at one input. -/
def fnEnvelopesWrong : ChangeSpec := { name := "fnEnvelopes", fn := fun _ => fun
  | [d] => { results := [.lit (.bool false)], args := [d] }
  | _ => none }
def FnEnvelopesWrongFalsely : Prop := fnEnvelopesRow.holds Try.pinned (OpenSpec.ofChange fnEnvelopesWrong)

/-- 'laws.FnExactFramesHold': WHATEVER THE INPUT: true; the input reads as it did. -/
def fnExactFramesHoldSpec : ChangeSpec := { name := "fnExactFramesHold", fn := fun _ => fun
  | [d1, d2] => { results := [.lit (.bool true)], args := [d1, d2] }
  | _ => none }
def fnExactFramesHoldRow : OpenClaim := { program := "ytcaapedadpnjoaa", sum := "2d697992a0ac942c1a7a3268f00b9b0ff7477a8bee6cd976317a044229419bea", func := "loop.example/g00982/laws.FnExactFramesHold", spec := "fnExactFramesHold", apart := false }
def FnExactFramesHoldSaid : Prop := fnExactFramesHoldRow.holds Try.pinned (OpenSpec.ofChange fnExactFramesHoldSpec)

/-- ITS FALSE NEIGHBOUR: 'it returns false'. Refute it at one input. -/
def fnExactFramesHoldWrong : ChangeSpec := { name := "fnExactFramesHold", fn := fun _ => fun
  | [d1, d2] => { results := [.lit (.bool false)], args := [d1, d2] }
  | _ => none }
def FnExactFramesHoldWrongFalsely : Prop := fnExactFramesHoldRow.holds Try.pinned (OpenSpec.ofChange fnExactFramesHoldWrong)

/-- 'laws.FnExactEnvelopeOf': WHATEVER THE INPUT: true; the input reads as it did. -/
def fnExactEnvelopeOfSpec : ChangeSpec := { name := "fnExactEnvelopeOf", fn := fun _ => fun
  | [d] => { results := [.lit (.bool true)], args := [d] }
  | _ => none }
def fnExactEnvelopeOfRow : OpenClaim := { program := "ytcaapedadpnjoaa", sum := "2d697992a0ac942c1a7a3268f00b9b0ff7477a8bee6cd976317a044229419bea", func := "loop.example/g00982/laws.FnExactEnvelopeOf", spec := "fnExactEnvelopeOf", unfollowed := true, recurses := true, apart := false }
def FnExactEnvelopeOfSaid : Prop := fnExactEnvelopeOfRow.holds Try.pinned (OpenSpec.ofChange fnExactEnvelopeOfSpec)

/-- ITS FALSE NEIGHBOUR: 'it returns false'. Refute it at one input. -/
def fnExactEnvelopeOfWrong : ChangeSpec := { name := "fnExactEnvelopeOf", fn := fun _ => fun
  | [d] => { results := [.lit (.bool false)], args := [d] }
  | _ => none }
def FnExactEnvelopeOfWrongFalsely : Prop := fnExactEnvelopeOfRow.holds Try.pinned (OpenSpec.ofChange fnExactEnvelopeOfWrong)

/-- 'laws.FnStepAll': WHATEVER THE INPUT: true; the input reads as it did. -/
def fnStepAllSpec : ChangeSpec := { name := "fnStepAll", fn := fun _ => fun
  | [d] => { results := [.lit (.bool true)], args := [d] }
  | _ => none }
def fnStepAllRow : OpenClaim := { program := "ytcaapedadpnjoaa", sum := "2d697992a0ac942c1a7a3268f00b9b0ff7477a8bee6cd976317a044229419bea", func := "loop.example/g00982/laws.FnStepAll", spec := "fnStepAll", unfollowed := true, recurses := true, apart := false }
def FnStepAllSaid : Prop := fnStepAllRow.holds Try.pinned (OpenSpec.ofChange fnStepAllSpec)

/-- ITS FALSE NEIGHBOUR: 'it returns false'. Refute it at one input. -/
def fnStepAllWrong : ChangeSpec := { name := "fnStepAll", fn := fun _ => fun
  | [d] => { results := [.lit (.bool false)], args := [d] }
  | _ => none }
def FnStepAllWrongFalsely : Prop := fnStepAllRow.holds Try.pinned (OpenSpec.ofChange fnStepAllWrong)

/-- 'laws.FnExactStepAll': WHATEVER THE INPUT: true; the input reads as it did. -/
def fnExactStepAllSpec : ChangeSpec := { name := "fnExactStepAll", fn := fun _ => fun
  | [d1, d2] => { results := [.lit (.bool true)], args := [d1, d2] }
  | _ => none }
def fnExactStepAllRow : OpenClaim := { program := "ytcaapedadpnjoaa", sum := "2d697992a0ac942c1a7a3268f00b9b0ff7477a8bee6cd976317a044229419bea", func := "loop.example/g00982/laws.FnExactStepAll", spec := "fnExactStepAll", unfollowed := true, recurses := true, apart := false }
def FnExactStepAllSaid : Prop := fnExactStepAllRow.holds Try.pinned (OpenSpec.ofChange fnExactStepAllSpec)

/-- ITS FALSE NEIGHBOUR: 'it returns false'. Refute it at one input. -/
def fnExactStepAllWrong : ChangeSpec := { name := "fnExactStepAll", fn := fun _ => fun
  | [d1, d2] => { results := [.lit (.bool false)], args := [d1, d2] }
  | _ => none }
def FnExactStepAllWrongFalsely : Prop := fnExactStepAllRow.holds Try.pinned (OpenSpec.ofChange fnExactStepAllWrong)

/-- 'laws.FnFrames': WHATEVER THE INPUT: true; the input reads as it did. -/
def fnFramesSpec : ChangeSpec := { name := "fnFrames", fn := fun _ => fun
  | [d] => { results := [.lit (.bool true)], args := [d] }
  | _ => none }
def fnFramesRow : OpenClaim := { program := "ytcaapedadpnjoaa", sum := "2d697992a0ac942c1a7a3268f00b9b0ff7477a8bee6cd976317a044229419bea", func := "loop.example/g00982/laws.FnFrames", spec := "fnFrames", unfollowed := true, recurses := true, apart := false }
def FnFramesSaid : Prop := fnFramesRow.holds Try.pinned (OpenSpec.ofChange fnFramesSpec)

/-- ITS FALSE NEIGHBOUR: 'it returns false'. Refute it at one input. -/
def fnFramesWrong : ChangeSpec := { name := "fnFrames", fn := fun _ => fun
  | [d] => { results := [.lit (.bool false)], args := [d] }
  | _ => none }
def FnFramesWrongFalsely : Prop := fnFramesRow.holds Try.pinned (OpenSpec.ofChange fnFramesWrong)

/- THE SECOND FORM. 'bulk': how many values and letters a reading holds, each counted each time it is reached (what is shared counts as often as it is met; a slice's spare places count too). A statement '..UptoSaid' is the law's where the arguments, and the package variables that the reading takes, are together of bulk at most 1048576: NARROWER than '..Said'. Prove '..Said' where nothing that the law and all that it calls make is longer than what came in: it says more and counts as full. Else prove '..UptoSaid'. A law counts once. -/
mutual
def uptoBulk {H : Type} : DataW H → Nat
  | .lit (.string bytes) => bytes.length + 1
  | .lit _ => 1
  | .nil => 1
  | .ptr d => uptoBulk d + 1
  | .slice elems spare => uptoBulkAll elems + uptoBulkAll spare + 1
  | .agg parts => uptoBulkAll parts + 1
  | .iface _ d => uptoBulk d + 1
  | .map entries => uptoBulkEntries entries + 1
  | .held _ => 1
def uptoBulkAll {H : Type} : List (DataW H) → Nat
  | [] => 0
  | d :: r => uptoBulk d + uptoBulkAll r
def uptoBulkEntries {H : Type} : List (Lit × DataW H) → Nat
  | [] => 0
  | x :: r => uptoBulkEntry x + uptoBulkEntries r
def uptoBulkEntry {H : Type} : Lit × DataW H → Nat
  | (.string bytes, d) => bytes.length + uptoBulk d + 1
  | (_, d) => uptoBulk d + 1
 end
def uptoSmall : (H : Type) → List (DataW H) → Bool := fun _ ds => decide (uptoBulkAll ds ≤ 1048576)
def OpenSpec.upto (s : _root_.Go.ChangeSpec) : _root_.Go.OpenSpec := { _root_.Go.OpenSpec.ofChange s with cond := some uptoSmall }

/-- 'laws.FnEnvelopes', WHERE WHAT IT READS IS OF BULK AT MOST 1048576: true; the input reads as it did. -/
def fnEnvelopesUptoRow : OpenClaim := { program := "ytcaapedadpnjoaa", sum := "2d697992a0ac942c1a7a3268f00b9b0ff7477a8bee6cd976317a044229419bea", func := "loop.example/g00982/laws.FnEnvelopes", spec := "fnEnvelopes", unfollowed := true, recurses := true, apart := false, narrowed := true }
def FnEnvelopesUptoSaid : Prop := fnEnvelopesUptoRow.holds Try.pinned (OpenSpec.upto fnEnvelopesSpec)

/-- 'laws.FnExactFramesHold', WHERE WHAT IT READS IS OF BULK AT MOST 1048576: true; the input reads as it did. -/
def fnExactFramesHoldUptoRow : OpenClaim := { program := "ytcaapedadpnjoaa", sum := "2d697992a0ac942c1a7a3268f00b9b0ff7477a8bee6cd976317a044229419bea", func := "loop.example/g00982/laws.FnExactFramesHold", spec := "fnExactFramesHold", apart := false, narrowed := true }
def FnExactFramesHoldUptoSaid : Prop := fnExactFramesHoldUptoRow.holds Try.pinned (OpenSpec.upto fnExactFramesHoldSpec)

/-- 'laws.FnExactEnvelopeOf', WHERE WHAT IT READS IS OF BULK AT MOST 1048576: true; the input reads as it did. -/
def fnExactEnvelopeOfUptoRow : OpenClaim := { program := "ytcaapedadpnjoaa", sum := "2d697992a0ac942c1a7a3268f00b9b0ff7477a8bee6cd976317a044229419bea", func := "loop.example/g00982/laws.FnExactEnvelopeOf", spec := "fnExactEnvelopeOf", unfollowed := true, recurses := true, apart := false, narrowed := true }
def FnExactEnvelopeOfUptoSaid : Prop := fnExactEnvelopeOfUptoRow.holds Try.pinned (OpenSpec.upto fnExactEnvelopeOfSpec)

/-- 'laws.FnStepAll', WHERE WHAT IT READS IS OF BULK AT MOST 1048576: true; the input reads as it did. -/
def fnStepAllUptoRow : OpenClaim := { program := "ytcaapedadpnjoaa", sum := "2d697992a0ac942c1a7a3268f00b9b0ff7477a8bee6cd976317a044229419bea", func := "loop.example/g00982/laws.FnStepAll", spec := "fnStepAll", unfollowed := true, recurses := true, apart := false, narrowed := true }
def FnStepAllUptoSaid : Prop := fnStepAllUptoRow.holds Try.pinned (OpenSpec.upto fnStepAllSpec)

/-- 'laws.FnExactStepAll', WHERE WHAT IT READS IS OF BULK AT MOST 1048576: true; the input reads as it did. -/
def fnExactStepAllUptoRow : OpenClaim := { program := "ytcaapedadpnjoaa", sum := "2d697992a0ac942c1a7a3268f00b9b0ff7477a8bee6cd976317a044229419bea", func := "loop.example/g00982/laws.FnExactStepAll", spec := "fnExactStepAll", unfollowed := true, recurses := true, apart := false, narrowed := true }
def FnExactStepAllUptoSaid : Prop := fnExactStepAllUptoRow.holds Try.pinned (OpenSpec.upto fnExactStepAllSpec)

/-- 'laws.FnFrames', WHERE WHAT IT READS IS OF BULK AT MOST 1048576: true; the input reads as it did. -/
def fnFramesUptoRow : OpenClaim := { program := "ytcaapedadpnjoaa", sum := "2d697992a0ac942c1a7a3268f00b9b0ff7477a8bee6cd976317a044229419bea", func := "loop.example/g00982/laws.FnFrames", spec := "fnFrames", unfollowed := true, recurses := true, apart := false, narrowed := true }
def FnFramesUptoSaid : Prop := fnFramesUptoRow.holds Try.pinned (OpenSpec.upto fnFramesSpec)

end Rows
end Go.Proofs.Ytcaapedadpnjoaa
