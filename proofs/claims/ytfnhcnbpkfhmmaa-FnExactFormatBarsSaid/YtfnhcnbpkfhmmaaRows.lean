/-
  No cell of these rows narrows 'for every input' (looked for: loops, veiled, ifaces, maps, wideKeys, modest, calm, conditions, laid).
  DERIVED. THE GIVEN ROWS OF THIS SEAT. 10 by the template 'for every input the law returns true; each argument reads behind the call as it read before'; 0 by the template 'total and deterministic' (their statements: YtfnhcnbpkfhmmaaTotals.lean).
  GIVEN WITH THE SEED: the statements are not yours to turn. If you find one false, say at which input.
  Laid BY PROGRAM, IN A SANDBOX (cutbox-rows.mjs): the forced cells as the released guide's own fill.sh prints them over the translation a9db6eff21a8d5a3… (all of the seat's roots in one cut). By AI agents, Wed Nov 11 2026. No macro, syntax, notation, axiom, sorry.
-/
import Derived.Test.YtfnhcnbpkfhmmaaChecked
import GoSem.Claim
import GoSem.ClaimJoined
import GoSem.ClaimMapViews
import Derived.JoinedTies
import Derived.KernelRfl
namespace Go.Proofs.Ytfnhcnbpkfhmmaa
/- THE CELL 'sum', in the pinned program and in every row, IS THE sha256 OF THE DUMP (.gsa) THAT YtfnhcnbpkfhmmaaProg.lean LOADS. Nothing in Lean hashes anything: it is a label: what it is worth is what the hold of that sum in a sandbox is worth. -/
noncomputable def Try.pinned : Pinned := { name := "ytfnhcnbpkfhmmaa", sum := "a9db6eff21a8d5a3db951780282acc0de7454a1fd4ecf80cd8de85aace40011e", checked := Try.checked }
namespace Rows
def none {H : Type} : Left H := { results := [], args := [] }

/-- 'laws.FnEnvelopes': WHATEVER THE INPUT: true; the input reads as it did. -/
def fnEnvelopesSpec : ChangeSpec := { name := "fnEnvelopes", fn := fun _ => fun
  | [d] => { results := [.lit (.bool true)], args := [d] }
  | _ => none }
def fnEnvelopesRow : OpenClaim := { program := "ytfnhcnbpkfhmmaa", sum := "a9db6eff21a8d5a3db951780282acc0de7454a1fd4ecf80cd8de85aace40011e", func := "loop.example/g00982/laws.FnEnvelopes", spec := "fnEnvelopes", unfollowed := true, recurses := true, apart := false }
def FnEnvelopesSaid : Prop := fnEnvelopesRow.holds Try.pinned (OpenSpec.ofChange fnEnvelopesSpec)

/-- ITS FALSE NEIGHBOUR: 'it returns false'. Refute it at one input. -/
def fnEnvelopesWrong : ChangeSpec := { name := "fnEnvelopes", fn := fun _ => fun
  | [d] => { results := [.lit (.bool false)], args := [d] }
  | _ => none }
def FnEnvelopesWrongFalsely : Prop := fnEnvelopesRow.holds Try.pinned (OpenSpec.ofChange fnEnvelopesWrong)

/-- 'laws.FnExactCanJoin': WHATEVER THE INPUT: true; the input reads as it did. -/
def fnExactCanJoinSpec : ChangeSpec := { name := "fnExactCanJoin", fn := fun _ => fun
  | [d1, d2] => { results := [.lit (.bool true)], args := [d1, d2] }
  | _ => none }
def fnExactCanJoinRow : OpenClaim := { program := "ytfnhcnbpkfhmmaa", sum := "a9db6eff21a8d5a3db951780282acc0de7454a1fd4ecf80cd8de85aace40011e", func := "loop.example/g00982/laws.FnExactCanJoin", spec := "fnExactCanJoin", unfollowed := true, recurses := true, apart := false }
def FnExactCanJoinSaid : Prop := fnExactCanJoinRow.holds Try.pinned (OpenSpec.ofChange fnExactCanJoinSpec)

/-- ITS FALSE NEIGHBOUR: 'it returns false'. Refute it at one input. -/
def fnExactCanJoinWrong : ChangeSpec := { name := "fnExactCanJoin", fn := fun _ => fun
  | [d1, d2] => { results := [.lit (.bool false)], args := [d1, d2] }
  | _ => none }
def FnExactCanJoinWrongFalsely : Prop := fnExactCanJoinRow.holds Try.pinned (OpenSpec.ofChange fnExactCanJoinWrong)

/-- 'laws.FnExactInEnvelope': WHATEVER THE INPUT: true; the input reads as it did. -/
def fnExactInEnvelopeSpec : ChangeSpec := { name := "fnExactInEnvelope", fn := fun _ => fun
  | [d1, d2, d3] => { results := [.lit (.bool true)], args := [d1, d2, d3] }
  | _ => none }
def fnExactInEnvelopeRow : OpenClaim := { program := "ytfnhcnbpkfhmmaa", sum := "a9db6eff21a8d5a3db951780282acc0de7454a1fd4ecf80cd8de85aace40011e", func := "loop.example/g00982/laws.FnExactInEnvelope", spec := "fnExactInEnvelope", unfollowed := true, recurses := true, apart := false }
def FnExactInEnvelopeSaid : Prop := fnExactInEnvelopeRow.holds Try.pinned (OpenSpec.ofChange fnExactInEnvelopeSpec)

/-- ITS FALSE NEIGHBOUR: 'it returns false'. Refute it at one input. -/
def fnExactInEnvelopeWrong : ChangeSpec := { name := "fnExactInEnvelope", fn := fun _ => fun
  | [d1, d2, d3] => { results := [.lit (.bool false)], args := [d1, d2, d3] }
  | _ => none }
def FnExactInEnvelopeWrongFalsely : Prop := fnExactInEnvelopeRow.holds Try.pinned (OpenSpec.ofChange fnExactInEnvelopeWrong)

/-- 'laws.FnExactSameWorld': WHATEVER THE INPUT: true; the input reads as it did. -/
def fnExactSameWorldSpec : ChangeSpec := { name := "fnExactSameWorld", fn := fun _ => fun
  | [d1, d2] => { results := [.lit (.bool true)], args := [d1, d2] }
  | _ => none }
def fnExactSameWorldRow : OpenClaim := { program := "ytfnhcnbpkfhmmaa", sum := "a9db6eff21a8d5a3db951780282acc0de7454a1fd4ecf80cd8de85aace40011e", func := "loop.example/g00982/laws.FnExactSameWorld", spec := "fnExactSameWorld", apart := false }
def FnExactSameWorldSaid : Prop := fnExactSameWorldRow.holds Try.pinned (OpenSpec.ofChange fnExactSameWorldSpec)

/-- ITS FALSE NEIGHBOUR: 'it returns false'. Refute it at one input. -/
def fnExactSameWorldWrong : ChangeSpec := { name := "fnExactSameWorld", fn := fun _ => fun
  | [d1, d2] => { results := [.lit (.bool false)], args := [d1, d2] }
  | _ => none }
def FnExactSameWorldWrongFalsely : Prop := fnExactSameWorldRow.holds Try.pinned (OpenSpec.ofChange fnExactSameWorldWrong)

/-- 'laws.FnExactFormatBars': WHATEVER THE INPUT: true; the input reads as it did. -/
def fnExactFormatBarsSpec : ChangeSpec := { name := "fnExactFormatBars", fn := fun _ => fun
  | [d1, d2] => { results := [.lit (.bool true)], args := [d1, d2] }
  | _ => none }
def fnExactFormatBarsRow : OpenClaim := { program := "ytfnhcnbpkfhmmaa", sum := "a9db6eff21a8d5a3db951780282acc0de7454a1fd4ecf80cd8de85aace40011e", func := "loop.example/g00982/laws.FnExactFormatBars", spec := "fnExactFormatBars", unfollowed := true, recurses := true, apart := false }
def FnExactFormatBarsSaid : Prop := fnExactFormatBarsRow.holds Try.pinned (OpenSpec.ofChange fnExactFormatBarsSpec)

/-- ITS FALSE NEIGHBOUR: 'it returns false'. Refute it at one input. -/
def fnExactFormatBarsWrong : ChangeSpec := { name := "fnExactFormatBars", fn := fun _ => fun
  | [d1, d2] => { results := [.lit (.bool false)], args := [d1, d2] }
  | _ => none }
def FnExactFormatBarsWrongFalsely : Prop := fnExactFormatBarsRow.holds Try.pinned (OpenSpec.ofChange fnExactFormatBarsWrong)

/-- 'laws.FnExactReadGauge': WHATEVER THE INPUT: true; the input reads as it did. -/
def fnExactReadGaugeSpec : ChangeSpec := { name := "fnExactReadGauge", fn := fun _ => fun
  | [d1, d2] => { results := [.lit (.bool true)], args := [d1, d2] }
  | _ => none }
def fnExactReadGaugeRow : OpenClaim := { program := "ytfnhcnbpkfhmmaa", sum := "a9db6eff21a8d5a3db951780282acc0de7454a1fd4ecf80cd8de85aace40011e", func := "loop.example/g00982/laws.FnExactReadGauge", spec := "fnExactReadGauge", unfollowed := true, recurses := true, apart := false }
def FnExactReadGaugeSaid : Prop := fnExactReadGaugeRow.holds Try.pinned (OpenSpec.ofChange fnExactReadGaugeSpec)

/-- ITS FALSE NEIGHBOUR: 'it returns false'. Refute it at one input. -/
def fnExactReadGaugeWrong : ChangeSpec := { name := "fnExactReadGauge", fn := fun _ => fun
  | [d1, d2] => { results := [.lit (.bool false)], args := [d1, d2] }
  | _ => none }
def FnExactReadGaugeWrongFalsely : Prop := fnExactReadGaugeRow.holds Try.pinned (OpenSpec.ofChange fnExactReadGaugeWrong)

/-- 'laws.FnExactDistanceOf': WHATEVER THE INPUT: true; the input reads as it did. -/
def fnExactDistanceOfSpec : ChangeSpec := { name := "fnExactDistanceOf", fn := fun _ => fun
  | [d1, d2] => { results := [.lit (.bool true)], args := [d1, d2] }
  | _ => none }
def fnExactDistanceOfRow : OpenClaim := { program := "ytfnhcnbpkfhmmaa", sum := "a9db6eff21a8d5a3db951780282acc0de7454a1fd4ecf80cd8de85aace40011e", func := "loop.example/g00982/laws.FnExactDistanceOf", spec := "fnExactDistanceOf", unfollowed := true, recurses := true, apart := false }
def FnExactDistanceOfSaid : Prop := fnExactDistanceOfRow.holds Try.pinned (OpenSpec.ofChange fnExactDistanceOfSpec)

/-- ITS FALSE NEIGHBOUR: 'it returns false'. Refute it at one input. -/
def fnExactDistanceOfWrong : ChangeSpec := { name := "fnExactDistanceOf", fn := fun _ => fun
  | [d1, d2] => { results := [.lit (.bool false)], args := [d1, d2] }
  | _ => none }
def FnExactDistanceOfWrongFalsely : Prop := fnExactDistanceOfRow.holds Try.pinned (OpenSpec.ofChange fnExactDistanceOfWrong)

/-- 'laws.FnExactProfileOf': WHATEVER THE INPUT: true; the input reads as it did. -/
def fnExactProfileOfSpec : ChangeSpec := { name := "fnExactProfileOf", fn := fun _ => fun
  | [d] => { results := [.lit (.bool true)], args := [d] }
  | _ => none }
def fnExactProfileOfRow : OpenClaim := { program := "ytfnhcnbpkfhmmaa", sum := "a9db6eff21a8d5a3db951780282acc0de7454a1fd4ecf80cd8de85aace40011e", func := "loop.example/g00982/laws.FnExactProfileOf", spec := "fnExactProfileOf", unfollowed := true, recurses := true, apart := false }
def FnExactProfileOfSaid : Prop := fnExactProfileOfRow.holds Try.pinned (OpenSpec.ofChange fnExactProfileOfSpec)

/-- ITS FALSE NEIGHBOUR: 'it returns false'. Refute it at one input. -/
def fnExactProfileOfWrong : ChangeSpec := { name := "fnExactProfileOf", fn := fun _ => fun
  | [d] => { results := [.lit (.bool false)], args := [d] }
  | _ => none }
def FnExactProfileOfWrongFalsely : Prop := fnExactProfileOfRow.holds Try.pinned (OpenSpec.ofChange fnExactProfileOfWrong)

/-- 'laws.FnExactWorstPosition': WHATEVER THE INPUT: true; the input reads as it did. -/
def fnExactWorstPositionSpec : ChangeSpec := { name := "fnExactWorstPosition", fn := fun _ => fun
  | [d1, d2] => { results := [.lit (.bool true)], args := [d1, d2] }
  | _ => none }
def fnExactWorstPositionRow : OpenClaim := { program := "ytfnhcnbpkfhmmaa", sum := "a9db6eff21a8d5a3db951780282acc0de7454a1fd4ecf80cd8de85aace40011e", func := "loop.example/g00982/laws.FnExactWorstPosition", spec := "fnExactWorstPosition", unfollowed := true, recurses := true, apart := false }
def FnExactWorstPositionSaid : Prop := fnExactWorstPositionRow.holds Try.pinned (OpenSpec.ofChange fnExactWorstPositionSpec)

/-- ITS FALSE NEIGHBOUR: 'it returns false'. Refute it at one input. -/
def fnExactWorstPositionWrong : ChangeSpec := { name := "fnExactWorstPosition", fn := fun _ => fun
  | [d1, d2] => { results := [.lit (.bool false)], args := [d1, d2] }
  | _ => none }
def FnExactWorstPositionWrongFalsely : Prop := fnExactWorstPositionRow.holds Try.pinned (OpenSpec.ofChange fnExactWorstPositionWrong)

/-- 'laws.FnExactAgree': WHATEVER THE INPUT: true; the input reads as it did. -/
def fnExactAgreeSpec : ChangeSpec := { name := "fnExactAgree", fn := fun _ => fun
  | [d1, d2, d3] => { results := [.lit (.bool true)], args := [d1, d2, d3] }
  | _ => none }
def fnExactAgreeRow : OpenClaim := { program := "ytfnhcnbpkfhmmaa", sum := "a9db6eff21a8d5a3db951780282acc0de7454a1fd4ecf80cd8de85aace40011e", func := "loop.example/g00982/laws.FnExactAgree", spec := "fnExactAgree", unfollowed := true, recurses := true, apart := false }
def FnExactAgreeSaid : Prop := fnExactAgreeRow.holds Try.pinned (OpenSpec.ofChange fnExactAgreeSpec)

/-- ITS FALSE NEIGHBOUR: 'it returns false'. Refute it at one input. -/
def fnExactAgreeWrong : ChangeSpec := { name := "fnExactAgree", fn := fun _ => fun
  | [d1, d2, d3] => { results := [.lit (.bool false)], args := [d1, d2, d3] }
  | _ => none }
def FnExactAgreeWrongFalsely : Prop := fnExactAgreeRow.holds Try.pinned (OpenSpec.ofChange fnExactAgreeWrong)

/- THE SECOND FORM. 'bulk': how many values and letters a reading holds, each counted each time it is reached (what is shared counts as often as it is met; a slice's spare places count too). A statement '..UptoSaid' is the law's where the arguments, and the package variables that the reading takes, are together of bulk at most 1048576: NARROWER than '..Said'. Prove '..Said' where nothing that the law and all that it calls make is longer than what came in: it says more and counts as full. Else prove '..UptoSaid'. A law counts once. -/
mutual
def uptoBulk {H : Type} : DataW H → Nat
  | .lit (.string bytes) => bytes.length + 1
  | .lit _ => 1
  | .nil => 1
  | .ptr d => uptoBulk d + 1
  | .slice elems spare => uptoBulkAll elems + uptoBulkAll spare + 1
  | .agg parts => uptoBulkAll parts + 1
  | .iface _ d => uptoBulk d + 1
  | .map entries => uptoBulkEntries entries + 1
  | .held _ => 1
def uptoBulkAll {H : Type} : List (DataW H) → Nat
  | [] => 0
  | d :: r => uptoBulk d + uptoBulkAll r
def uptoBulkEntries {H : Type} : List (Lit × DataW H) → Nat
  | [] => 0
  | x :: r => uptoBulkEntry x + uptoBulkEntries r
def uptoBulkEntry {H : Type} : Lit × DataW H → Nat
  | (.string bytes, d) => bytes.length + uptoBulk d + 1
  | (_, d) => uptoBulk d + 1
 end
def uptoSmall : (H : Type) → List (DataW H) → Bool := fun _ ds => decide (uptoBulkAll ds ≤ 1048576)
def OpenSpec.upto (s : _root_.Go.ChangeSpec) : _root_.Go.OpenSpec := { _root_.Go.OpenSpec.ofChange s with cond := some uptoSmall }

/-- 'laws.FnEnvelopes', WHERE WHAT IT READS IS OF BULK AT MOST 1048576: true; the input reads as it did. -/
def fnEnvelopesUptoRow : OpenClaim := { program := "ytfnhcnbpkfhmmaa", sum := "a9db6eff21a8d5a3db951780282acc0de7454a1fd4ecf80cd8de85aace40011e", func := "loop.example/g00982/laws.FnEnvelopes", spec := "fnEnvelopes", unfollowed := true, recurses := true, apart := false, narrowed := true }
def FnEnvelopesUptoSaid : Prop := fnEnvelopesUptoRow.holds Try.pinned (OpenSpec.upto fnEnvelopesSpec)

/-- 'laws.FnExactCanJoin', WHERE WHAT IT READS IS OF BULK AT MOST 1048576: true; the input reads as it did. -/
def fnExactCanJoinUptoRow : OpenClaim := { program := "ytfnhcnbpkfhmmaa", sum := "a9db6eff21a8d5a3db951780282acc0de7454a1fd4ecf80cd8de85aace40011e", func := "loop.example/g00982/laws.FnExactCanJoin", spec := "fnExactCanJoin", unfollowed := true, recurses := true, apart := false, narrowed := true }
def FnExactCanJoinUptoSaid : Prop := fnExactCanJoinUptoRow.holds Try.pinned (OpenSpec.upto fnExactCanJoinSpec)

/-- 'laws.FnExactInEnvelope', WHERE WHAT IT READS IS OF BULK AT MOST 1048576: true; the input reads as it did. -/
def fnExactInEnvelopeUptoRow : OpenClaim := { program := "ytfnhcnbpkfhmmaa", sum := "a9db6eff21a8d5a3db951780282acc0de7454a1fd4ecf80cd8de85aace40011e", func := "loop.example/g00982/laws.FnExactInEnvelope", spec := "fnExactInEnvelope", unfollowed := true, recurses := true, apart := false, narrowed := true }
def FnExactInEnvelopeUptoSaid : Prop := fnExactInEnvelopeUptoRow.holds Try.pinned (OpenSpec.upto fnExactInEnvelopeSpec)

/-- 'laws.FnExactSameWorld', WHERE WHAT IT READS IS OF BULK AT MOST 1048576: true; the input reads as it did. -/
def fnExactSameWorldUptoRow : OpenClaim := { program := "ytfnhcnbpkfhmmaa", sum := "a9db6eff21a8d5a3db951780282acc0de7454a1fd4ecf80cd8de85aace40011e", func := "loop.example/g00982/laws.FnExactSameWorld", spec := "fnExactSameWorld", apart := false, narrowed := true }
def FnExactSameWorldUptoSaid : Prop := fnExactSameWorldUptoRow.holds Try.pinned (OpenSpec.upto fnExactSameWorldSpec)

/-- 'laws.FnExactFormatBars', WHERE WHAT IT READS IS OF BULK AT MOST 1048576: true; the input reads as it did. -/
def fnExactFormatBarsUptoRow : OpenClaim := { program := "ytfnhcnbpkfhmmaa", sum := "a9db6eff21a8d5a3db951780282acc0de7454a1fd4ecf80cd8de85aace40011e", func := "loop.example/g00982/laws.FnExactFormatBars", spec := "fnExactFormatBars", unfollowed := true, recurses := true, apart := false, narrowed := true }
def FnExactFormatBarsUptoSaid : Prop := fnExactFormatBarsUptoRow.holds Try.pinned (OpenSpec.upto fnExactFormatBarsSpec)

/-- 'laws.FnExactReadGauge', WHERE WHAT IT READS IS OF BULK AT MOST 1048576: true; the input reads as it did. -/
def fnExactReadGaugeUptoRow : OpenClaim := { program := "ytfnhcnbpkfhmmaa", sum := "a9db6eff21a8d5a3db951780282acc0de7454a1fd4ecf80cd8de85aace40011e", func := "loop.example/g00982/laws.FnExactReadGauge", spec := "fnExactReadGauge", unfollowed := true, recurses := true, apart := false, narrowed := true }
def FnExactReadGaugeUptoSaid : Prop := fnExactReadGaugeUptoRow.holds Try.pinned (OpenSpec.upto fnExactReadGaugeSpec)

/-- 'laws.FnExactDistanceOf', WHERE WHAT IT READS IS OF BULK AT MOST 1048576: true; the input reads as it did. -/
def fnExactDistanceOfUptoRow : OpenClaim := { program := "ytfnhcnbpkfhmmaa", sum := "a9db6eff21a8d5a3db951780282acc0de7454a1fd4ecf80cd8de85aace40011e", func := "loop.example/g00982/laws.FnExactDistanceOf", spec := "fnExactDistanceOf", unfollowed := true, recurses := true, apart := false, narrowed := true }
def FnExactDistanceOfUptoSaid : Prop := fnExactDistanceOfUptoRow.holds Try.pinned (OpenSpec.upto fnExactDistanceOfSpec)

/-- 'laws.FnExactProfileOf', WHERE WHAT IT READS IS OF BULK AT MOST 1048576: true; the input reads as it did. -/
def fnExactProfileOfUptoRow : OpenClaim := { program := "ytfnhcnbpkfhmmaa", sum := "a9db6eff21a8d5a3db951780282acc0de7454a1fd4ecf80cd8de85aace40011e", func := "loop.example/g00982/laws.FnExactProfileOf", spec := "fnExactProfileOf", unfollowed := true, recurses := true, apart := false, narrowed := true }
def FnExactProfileOfUptoSaid : Prop := fnExactProfileOfUptoRow.holds Try.pinned (OpenSpec.upto fnExactProfileOfSpec)

/-- 'laws.FnExactWorstPosition', WHERE WHAT IT READS IS OF BULK AT MOST 1048576: true; the input reads as it did. -/
def fnExactWorstPositionUptoRow : OpenClaim := { program := "ytfnhcnbpkfhmmaa", sum := "a9db6eff21a8d5a3db951780282acc0de7454a1fd4ecf80cd8de85aace40011e", func := "loop.example/g00982/laws.FnExactWorstPosition", spec := "fnExactWorstPosition", unfollowed := true, recurses := true, apart := false, narrowed := true }
def FnExactWorstPositionUptoSaid : Prop := fnExactWorstPositionUptoRow.holds Try.pinned (OpenSpec.upto fnExactWorstPositionSpec)

/-- 'laws.FnExactAgree', WHERE WHAT IT READS IS OF BULK AT MOST 1048576: true; the input reads as it did. -/
def fnExactAgreeUptoRow : OpenClaim := { program := "ytfnhcnbpkfhmmaa", sum := "a9db6eff21a8d5a3db951780282acc0de7454a1fd4ecf80cd8de85aace40011e", func := "loop.example/g00982/laws.FnExactAgree", spec := "fnExactAgree", unfollowed := true, recurses := true, apart := false, narrowed := true }
def FnExactAgreeUptoSaid : Prop := fnExactAgreeUptoRow.holds Try.pinned (OpenSpec.upto fnExactAgreeSpec)

end Rows
end Go.Proofs.Ytfnhcnbpkfhmmaa
