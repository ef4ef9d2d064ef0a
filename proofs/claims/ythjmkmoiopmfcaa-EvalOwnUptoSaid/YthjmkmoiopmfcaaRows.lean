/-
  No cell of these rows narrows 'for every input' (looked for: loops, veiled, ifaces, maps, wideKeys, modest, calm, conditions, laid).
  DERIVED. THE GIVEN ROWS OF THIS SEAT. 8 by the template 'for every input the law returns true; each argument reads behind the call as it read before'; 0 by the template 'total and deterministic' (their statements: YthjmkmoiopmfcaaTotals.lean).
  GIVEN WITH THE SEED: the statements are not yours to turn. If you find one false, say at which input.
  Laid BY PROGRAM, IN A SANDBOX (cutbox-rows.mjs): the forced cells as the released guide's own fill.sh prints them over the translation 811a20b045f43acd… (all of the seat's roots in one cut). By AI agents, Wed Nov 11 2026. No macro, syntax, notation, axiom, sorry.
-/
import Derived.Test.YthjmkmoiopmfcaaChecked
import GoSem.Claim
import GoSem.ClaimJoined
import GoSem.ClaimMapViews
import Derived.JoinedTies
import Derived.KernelRfl
namespace Go.Proofs.Ythjmkmoiopmfcaa
/- THE CELL 'sum', in the pinned program and in every row, IS THE sha256 OF THE DUMP (.gsa) THAT YthjmkmoiopmfcaaProg.lean LOADS. Nothing in Lean hashes anything: it is a label: what it is worth is what the hold of that sum in a sandbox is worth. -/
noncomputable def Try.pinned : Pinned := { name := "ythjmkmoiopmfcaa", sum := "811a20b045f43acdc2cc7b0191ef49ae294a0fefd9b21bb7afd2c2fbbeb1dff4", checked := Try.checked }
namespace Rows
def none {H : Type} : Left H := { results := [], args := [] }

/-- 'trivetlaw14.EvalRuns': WHATEVER THE INPUT: true; the input reads as it did. -/
def evalRunsSpec : ChangeSpec := { name := "evalRuns", fn := fun _ => fun
  | [d1, d2, d3] => { results := [.lit (.bool true)], args := [d1, d2, d3] }
  | _ => none }
def evalRunsRow : OpenClaim := { program := "ythjmkmoiopmfcaa", sum := "811a20b045f43acdc2cc7b0191ef49ae294a0fefd9b21bb7afd2c2fbbeb1dff4", func := "trivet/trivetlaw14.EvalRuns", spec := "evalRuns", unfollowed := true, recurses := true, plainKeys := false, apart := false }
def EvalRunsSaid : Prop := evalRunsRow.holds Try.pinned (OpenSpec.ofChange evalRunsSpec)

/-- ITS FALSE NEIGHBOUR: 'it returns false'. Refute it at one input. -/
def evalRunsWrong : ChangeSpec := { name := "evalRuns", fn := fun _ => fun
  | [d1, d2, d3] => { results := [.lit (.bool false)], args := [d1, d2, d3] }
  | _ => none }
def EvalRunsWrongFalsely : Prop := evalRunsRow.holds Try.pinned (OpenSpec.ofChange evalRunsWrong)

/-- 'trivetlaw14.EvalBinary': WHATEVER THE INPUT: true; the input reads as it did. -/
def evalBinarySpec : ChangeSpec := { name := "evalBinary", fn := fun _ => fun
  | [d1, d2, d3] => { results := [.lit (.bool true)], args := [d1, d2, d3] }
  | _ => none }
def evalBinaryRow : OpenClaim := { program := "ythjmkmoiopmfcaa", sum := "811a20b045f43acdc2cc7b0191ef49ae294a0fefd9b21bb7afd2c2fbbeb1dff4", func := "trivet/trivetlaw14.EvalBinary", spec := "evalBinary", unfollowed := true, recurses := true, plainKeys := false, apart := false }
def EvalBinarySaid : Prop := evalBinaryRow.holds Try.pinned (OpenSpec.ofChange evalBinarySpec)

/-- ITS FALSE NEIGHBOUR: 'it returns false'. Refute it at one input. -/
def evalBinaryWrong : ChangeSpec := { name := "evalBinary", fn := fun _ => fun
  | [d1, d2, d3] => { results := [.lit (.bool false)], args := [d1, d2, d3] }
  | _ => none }
def EvalBinaryWrongFalsely : Prop := evalBinaryRow.holds Try.pinned (OpenSpec.ofChange evalBinaryWrong)

/-- 'trivetlaw14.EvalEnds': WHATEVER THE INPUT: true; the input reads as it did. -/
def evalEndsSpec : ChangeSpec := { name := "evalEnds", fn := fun _ => fun
  | [d1, d2, d3, d4] => { results := [.lit (.bool true)], args := [d1, d2, d3, d4] }
  | _ => none }
def evalEndsRow : OpenClaim := { program := "ythjmkmoiopmfcaa", sum := "811a20b045f43acdc2cc7b0191ef49ae294a0fefd9b21bb7afd2c2fbbeb1dff4", func := "trivet/trivetlaw14.EvalEnds", spec := "evalEnds", unfollowed := true, recurses := true, plainKeys := false, apart := false }
def EvalEndsSaid : Prop := evalEndsRow.holds Try.pinned (OpenSpec.ofChange evalEndsSpec)

/-- ITS FALSE NEIGHBOUR: 'it returns false'. Refute it at one input. -/
def evalEndsWrong : ChangeSpec := { name := "evalEnds", fn := fun _ => fun
  | [d1, d2, d3, d4] => { results := [.lit (.bool false)], args := [d1, d2, d3, d4] }
  | _ => none }
def EvalEndsWrongFalsely : Prop := evalEndsRow.holds Try.pinned (OpenSpec.ofChange evalEndsWrong)

/-- 'trivetlaw14.EvalWithin': WHATEVER THE INPUT: true; the input reads as it did. -/
def evalWithinSpec : ChangeSpec := { name := "evalWithin", fn := fun _ => fun
  | [d1, d2, d3] => { results := [.lit (.bool true)], args := [d1, d2, d3] }
  | _ => none }
def evalWithinRow : OpenClaim := { program := "ythjmkmoiopmfcaa", sum := "811a20b045f43acdc2cc7b0191ef49ae294a0fefd9b21bb7afd2c2fbbeb1dff4", func := "trivet/trivetlaw14.EvalWithin", spec := "evalWithin", unfollowed := true, recurses := true, plainKeys := false, apart := false }
def EvalWithinSaid : Prop := evalWithinRow.holds Try.pinned (OpenSpec.ofChange evalWithinSpec)

/-- ITS FALSE NEIGHBOUR: 'it returns false'. Refute it at one input. -/
def evalWithinWrong : ChangeSpec := { name := "evalWithin", fn := fun _ => fun
  | [d1, d2, d3] => { results := [.lit (.bool false)], args := [d1, d2, d3] }
  | _ => none }
def EvalWithinWrongFalsely : Prop := evalWithinRow.holds Try.pinned (OpenSpec.ofChange evalWithinWrong)

/-- 'trivetlaw14.EvalSame': WHATEVER THE INPUT: true; the input reads as it did. -/
def evalSameSpec : ChangeSpec := { name := "evalSame", fn := fun _ => fun
  | [d1, d2] => { results := [.lit (.bool true)], args := [d1, d2] }
  | _ => none }
def evalSameRow : OpenClaim := { program := "ythjmkmoiopmfcaa", sum := "811a20b045f43acdc2cc7b0191ef49ae294a0fefd9b21bb7afd2c2fbbeb1dff4", func := "trivet/trivetlaw14.EvalSame", spec := "evalSame", unfollowed := true, recurses := true, plainKeys := false, apart := false }
def EvalSameSaid : Prop := evalSameRow.holds Try.pinned (OpenSpec.ofChange evalSameSpec)

/-- ITS FALSE NEIGHBOUR: 'it returns false'. Refute it at one input. -/
def evalSameWrong : ChangeSpec := { name := "evalSame", fn := fun _ => fun
  | [d1, d2] => { results := [.lit (.bool false)], args := [d1, d2] }
  | _ => none }
def EvalSameWrongFalsely : Prop := evalSameRow.holds Try.pinned (OpenSpec.ofChange evalSameWrong)

/-- 'trivetlaw14.EvalMaps': WHATEVER THE INPUT: true; the input reads as it did. -/
def evalMapsSpec : ChangeSpec := { name := "evalMaps", fn := fun _ => fun
  | [d1, d2, d3] => { results := [.lit (.bool true)], args := [d1, d2, d3] }
  | _ => none }
def evalMapsRow : OpenClaim := { program := "ythjmkmoiopmfcaa", sum := "811a20b045f43acdc2cc7b0191ef49ae294a0fefd9b21bb7afd2c2fbbeb1dff4", func := "trivet/trivetlaw14.EvalMaps", spec := "evalMaps", unfollowed := true, recurses := true, plainKeys := false, apart := false }
def EvalMapsSaid : Prop := evalMapsRow.holds Try.pinned (OpenSpec.ofChange evalMapsSpec)

/-- ITS FALSE NEIGHBOUR: 'it returns false'. Refute it at one input. -/
def evalMapsWrong : ChangeSpec := { name := "evalMaps", fn := fun _ => fun
  | [d1, d2, d3] => { results := [.lit (.bool false)], args := [d1, d2, d3] }
  | _ => none }
def EvalMapsWrongFalsely : Prop := evalMapsRow.holds Try.pinned (OpenSpec.ofChange evalMapsWrong)

/-- 'trivetlaw14.EvalApplied': WHATEVER THE INPUT: true; the input reads as it did. -/
def evalAppliedSpec : ChangeSpec := { name := "evalApplied", fn := fun _ => fun
  | [d1, d2] => { results := [.lit (.bool true)], args := [d1, d2] }
  | _ => none }
def evalAppliedRow : OpenClaim := { program := "ythjmkmoiopmfcaa", sum := "811a20b045f43acdc2cc7b0191ef49ae294a0fefd9b21bb7afd2c2fbbeb1dff4", func := "trivet/trivetlaw14.EvalApplied", spec := "evalApplied", unfollowed := true, recurses := true, plainKeys := false, apart := false }
def EvalAppliedSaid : Prop := evalAppliedRow.holds Try.pinned (OpenSpec.ofChange evalAppliedSpec)

/-- ITS FALSE NEIGHBOUR: 'it returns false'. Refute it at one input. -/
def evalAppliedWrong : ChangeSpec := { name := "evalApplied", fn := fun _ => fun
  | [d1, d2] => { results := [.lit (.bool false)], args := [d1, d2] }
  | _ => none }
def EvalAppliedWrongFalsely : Prop := evalAppliedRow.holds Try.pinned (OpenSpec.ofChange evalAppliedWrong)

/-- 'trivetlaw14.EvalOwn': WHATEVER THE INPUT: true; the input reads as it did. -/
def evalOwnSpec : ChangeSpec := { name := "evalOwn", fn := fun _ => fun
  | [d1, d2, d3] => { results := [.lit (.bool true)], args := [d1, d2, d3] }
  | _ => none }
def evalOwnRow : OpenClaim := { program := "ythjmkmoiopmfcaa", sum := "811a20b045f43acdc2cc7b0191ef49ae294a0fefd9b21bb7afd2c2fbbeb1dff4", func := "trivet/trivetlaw14.EvalOwn", spec := "evalOwn", unfollowed := true, recurses := true, plainKeys := false, apart := false }
def EvalOwnSaid : Prop := evalOwnRow.holds Try.pinned (OpenSpec.ofChange evalOwnSpec)

/-- ITS FALSE NEIGHBOUR: 'it returns false'. Refute it at one input. -/
def evalOwnWrong : ChangeSpec := { name := "evalOwn", fn := fun _ => fun
  | [d1, d2, d3] => { results := [.lit (.bool false)], args := [d1, d2, d3] }
  | _ => none }
def EvalOwnWrongFalsely : Prop := evalOwnRow.holds Try.pinned (OpenSpec.ofChange evalOwnWrong)

/- THE SECOND FORM. 'bulk': how many values and letters a reading holds, each counted each time it is reached (what is shared counts as often as it is met; a slice's spare places count too). A statement '..UptoSaid' is the law's where the arguments, and the package variables that the reading takes, are together of bulk at most 1048576: NARROWER than '..Said'. Prove '..Said' where nothing that the law and all that it calls make is longer than what came in: it says more and counts as full. Else prove '..UptoSaid'. A law counts once. -/
mutual
def uptoBulk {H : Type} : DataW H → Nat
  | .lit (.string bytes) => bytes.length + 1
  | .lit _ => 1
  | .nil => 1
  | .ptr d => uptoBulk d + 1
  | .slice elems spare => uptoBulkAll elems + uptoBulkAll spare + 1
  | .agg parts => uptoBulkAll parts + 1
  | .iface _ d => uptoBulk d + 1
  | .map entries => uptoBulkEntries entries + 1
  | .held _ => 1
def uptoBulkAll {H : Type} : List (DataW H) → Nat
  | [] => 0
  | d :: r => uptoBulk d + uptoBulkAll r
def uptoBulkEntries {H : Type} : List (Lit × DataW H) → Nat
  | [] => 0
  | x :: r => uptoBulkEntry x + uptoBulkEntries r
def uptoBulkEntry {H : Type} : Lit × DataW H → Nat
  | (.string bytes, d) => bytes.length + uptoBulk d + 1
  | (_, d) => uptoBulk d + 1
 end
def uptoSmall : (H : Type) → List (DataW H) → Bool := fun _ ds => decide (uptoBulkAll ds ≤ 1048576)
def OpenSpec.upto (s : _root_.Go.ChangeSpec) : _root_.Go.OpenSpec := { _root_.Go.OpenSpec.ofChange s with cond := some uptoSmall }

/-- 'trivetlaw14.EvalRuns', WHERE WHAT IT READS IS OF BULK AT MOST 1048576: true; the input reads as it did. -/
def evalRunsUptoRow : OpenClaim := { program := "ythjmkmoiopmfcaa", sum := "811a20b045f43acdc2cc7b0191ef49ae294a0fefd9b21bb7afd2c2fbbeb1dff4", func := "trivet/trivetlaw14.EvalRuns", spec := "evalRuns", unfollowed := true, recurses := true, plainKeys := false, apart := false, narrowed := true }
def EvalRunsUptoSaid : Prop := evalRunsUptoRow.holds Try.pinned (OpenSpec.upto evalRunsSpec)

/-- 'trivetlaw14.EvalBinary', WHERE WHAT IT READS IS OF BULK AT MOST 1048576: true; the input reads as it did. -/
def evalBinaryUptoRow : OpenClaim := { program := "ythjmkmoiopmfcaa", sum := "811a20b045f43acdc2cc7b0191ef49ae294a0fefd9b21bb7afd2c2fbbeb1dff4", func := "trivet/trivetlaw14.EvalBinary", spec := "evalBinary", unfollowed := true, recurses := true, plainKeys := false, apart := false, narrowed := true }
def EvalBinaryUptoSaid : Prop := evalBinaryUptoRow.holds Try.pinned (OpenSpec.upto evalBinarySpec)

/-- 'trivetlaw14.EvalEnds', WHERE WHAT IT READS IS OF BULK AT MOST 1048576: true; the input reads as it did. -/
def evalEndsUptoRow : OpenClaim := { program := "ythjmkmoiopmfcaa", sum := "811a20b045f43acdc2cc7b0191ef49ae294a0fefd9b21bb7afd2c2fbbeb1dff4", func := "trivet/trivetlaw14.EvalEnds", spec := "evalEnds", unfollowed := true, recurses := true, plainKeys := false, apart := false, narrowed := true }
def EvalEndsUptoSaid : Prop := evalEndsUptoRow.holds Try.pinned (OpenSpec.upto evalEndsSpec)

/-- 'trivetlaw14.EvalWithin', WHERE WHAT IT READS IS OF BULK AT MOST 1048576: true; the input reads as it did. -/
def evalWithinUptoRow : OpenClaim := { program := "ythjmkmoiopmfcaa", sum := "811a20b045f43acdc2cc7b0191ef49ae294a0fefd9b21bb7afd2c2fbbeb1dff4", func := "trivet/trivetlaw14.EvalWithin", spec := "evalWithin", unfollowed := true, recurses := true, plainKeys := false, apart := false, narrowed := true }
def EvalWithinUptoSaid : Prop := evalWithinUptoRow.holds Try.pinned (OpenSpec.upto evalWithinSpec)

/-- 'trivetlaw14.EvalSame', WHERE WHAT IT READS IS OF BULK AT MOST 1048576: true; the input reads as it did. -/
def evalSameUptoRow : OpenClaim := { program := "ythjmkmoiopmfcaa", sum := "811a20b045f43acdc2cc7b0191ef49ae294a0fefd9b21bb7afd2c2fbbeb1dff4", func := "trivet/trivetlaw14.EvalSame", spec := "evalSame", unfollowed := true, recurses := true, plainKeys := false, apart := false, narrowed := true }
def EvalSameUptoSaid : Prop := evalSameUptoRow.holds Try.pinned (OpenSpec.upto evalSameSpec)

/-- 'trivetlaw14.EvalMaps', WHERE WHAT IT READS IS OF BULK AT MOST 1048576: true; the input reads as it did. -/
def evalMapsUptoRow : OpenClaim := { program := "ythjmkmoiopmfcaa", sum := "811a20b045f43acdc2cc7b0191ef49ae294a0fefd9b21bb7afd2c2fbbeb1dff4", func := "trivet/trivetlaw14.EvalMaps", spec := "evalMaps", unfollowed := true, recurses := true, plainKeys := false, apart := false, narrowed := true }
def EvalMapsUptoSaid : Prop := evalMapsUptoRow.holds Try.pinned (OpenSpec.upto evalMapsSpec)

/-- 'trivetlaw14.EvalApplied', WHERE WHAT IT READS IS OF BULK AT MOST 1048576: true; the input reads as it did. -/
def evalAppliedUptoRow : OpenClaim := { program := "ythjmkmoiopmfcaa", sum := "811a20b045f43acdc2cc7b0191ef49ae294a0fefd9b21bb7afd2c2fbbeb1dff4", func := "trivet/trivetlaw14.EvalApplied", spec := "evalApplied", unfollowed := true, recurses := true, plainKeys := false, apart := false, narrowed := true }
def EvalAppliedUptoSaid : Prop := evalAppliedUptoRow.holds Try.pinned (OpenSpec.upto evalAppliedSpec)

/-- 'trivetlaw14.EvalOwn', WHERE WHAT IT READS IS OF BULK AT MOST 1048576: true; the input reads as it did. -/
def evalOwnUptoRow : OpenClaim := { program := "ythjmkmoiopmfcaa", sum := "811a20b045f43acdc2cc7b0191ef49ae294a0fefd9b21bb7afd2c2fbbeb1dff4", func := "trivet/trivetlaw14.EvalOwn", spec := "evalOwn", unfollowed := true, recurses := true, plainKeys := false, apart := false, narrowed := true }
def EvalOwnUptoSaid : Prop := evalOwnUptoRow.holds Try.pinned (OpenSpec.upto evalOwnSpec)

end Rows
end Go.Proofs.Ythjmkmoiopmfcaa
