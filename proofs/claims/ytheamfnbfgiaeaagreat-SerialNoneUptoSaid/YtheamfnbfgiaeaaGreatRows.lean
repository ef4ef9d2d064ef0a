/-
  No cell of these rows narrows 'for every input' (looked for: loops, veiled, ifaces, maps, wideKeys, modest, calm, conditions, laid).
  DERIVED. THE GIVEN ROWS OF THIS SEAT. 6 by the template 'for every input the law returns true; each argument reads behind the call as it read before'; 0 by the template 'total and deterministic' (their statements: YtheamfnbfgiaeaaGreatTotals.lean).
  GIVEN WITH THE SEED: the statements are not yours to turn. If you find one false, say at which input.
  Laid BY PROGRAM, IN A SANDBOX (cutbox-rows.mjs): the forced cells as the released guide's own fill.sh prints them over the translation c442f7a6a15abd95… (all of the seat's roots in one cut). By AI agents, Wed Nov 11 2026. No macro, syntax, notation, axiom, sorry.
-/
import Derived.Test.YtheamfnbfgiaeaaGreatChecked
import GoSem.Claim
import GoSem.ClaimJoined
import GoSem.ClaimMapViews
import Derived.JoinedTies
import Derived.KernelRfl
namespace Go.Proofs.YtheamfnbfgiaeaaGreat
/- THE CELL 'sum', in the pinned program and in every row, IS THE sha256 OF THE DUMP (.gsa) THAT YtheamfnbfgiaeaaGreatProg.lean LOADS. Nothing in Lean hashes anything: it is a label: what it is worth is what the hold of that sum in a sandbox is worth. -/
noncomputable def Tryz.pinned : Pinned := { name := "ytheamfnbfgiaeaagreat", sum := "c442f7a6a15abd957419842acee96a11747e54097bf1d86a3554abfb0a9e937c", checked := Tryz.checked }
namespace Rows
def none {H : Type} : Left H := { results := [], args := [] }

/-- 'trivetlaw17.SerialSteps': WHATEVER THE INPUT: true; the input reads as it did. -/
def serialStepsSpec : ChangeSpec := { name := "serialSteps", fn := fun _ => fun
  | [d1, d2, d3] => { results := [.lit (.bool true)], args := [d1, d2, d3] }
  | _ => none }
def serialStepsRow : OpenClaim := { program := "ytheamfnbfgiaeaagreat", sum := "c442f7a6a15abd957419842acee96a11747e54097bf1d86a3554abfb0a9e937c", func := "trivet/trivetlaw17.SerialSteps", spec := "serialSteps", unfollowed := true, recurses := true, plainKeys := false, apart := false }
def SerialStepsSaid : Prop := serialStepsRow.holds Tryz.pinned (OpenSpec.ofChange serialStepsSpec)

/-- ITS FALSE NEIGHBOUR: 'it returns false'. Refute it at one input. -/
def serialStepsWrong : ChangeSpec := { name := "serialSteps", fn := fun _ => fun
  | [d1, d2, d3] => { results := [.lit (.bool false)], args := [d1, d2, d3] }
  | _ => none }
def SerialStepsWrongFalsely : Prop := serialStepsRow.holds Tryz.pinned (OpenSpec.ofChange serialStepsWrong)

/-- 'trivetlaw17.SerialOwn': WHATEVER THE INPUT: true; the input reads as it did. -/
def serialOwnSpec : ChangeSpec := { name := "serialOwn", fn := fun _ => fun
  | [d1, d2] => { results := [.lit (.bool true)], args := [d1, d2] }
  | _ => none }
def serialOwnRow : OpenClaim := { program := "ytheamfnbfgiaeaagreat", sum := "c442f7a6a15abd957419842acee96a11747e54097bf1d86a3554abfb0a9e937c", func := "trivet/trivetlaw17.SerialOwn", spec := "serialOwn", unfollowed := true, recurses := true, plainKeys := false, apart := false }
def SerialOwnSaid : Prop := serialOwnRow.holds Tryz.pinned (OpenSpec.ofChange serialOwnSpec)

/-- ITS FALSE NEIGHBOUR: 'it returns false'. Refute it at one input. -/
def serialOwnWrong : ChangeSpec := { name := "serialOwn", fn := fun _ => fun
  | [d1, d2] => { results := [.lit (.bool false)], args := [d1, d2] }
  | _ => none }
def SerialOwnWrongFalsely : Prop := serialOwnRow.holds Tryz.pinned (OpenSpec.ofChange serialOwnWrong)

/-- 'trivetlaw17.SerialDoes': WHATEVER THE INPUT: true; the input reads as it did. -/
def serialDoesSpec : ChangeSpec := { name := "serialDoes", fn := fun _ => fun
  | [d1, d2, d3] => { results := [.lit (.bool true)], args := [d1, d2, d3] }
  | _ => none }
def serialDoesRow : OpenClaim := { program := "ytheamfnbfgiaeaagreat", sum := "c442f7a6a15abd957419842acee96a11747e54097bf1d86a3554abfb0a9e937c", func := "trivet/trivetlaw17.SerialDoes", spec := "serialDoes", unfollowed := true, recurses := true, plainKeys := false, apart := false }
def SerialDoesSaid : Prop := serialDoesRow.holds Tryz.pinned (OpenSpec.ofChange serialDoesSpec)

/-- ITS FALSE NEIGHBOUR: 'it returns false'. Refute it at one input. -/
def serialDoesWrong : ChangeSpec := { name := "serialDoes", fn := fun _ => fun
  | [d1, d2, d3] => { results := [.lit (.bool false)], args := [d1, d2, d3] }
  | _ => none }
def SerialDoesWrongFalsely : Prop := serialDoesRow.holds Tryz.pinned (OpenSpec.ofChange serialDoesWrong)

/-- 'trivetlaw17.SerialOnce': WHATEVER THE INPUT: true; the input reads as it did. -/
def serialOnceSpec : ChangeSpec := { name := "serialOnce", fn := fun _ => fun
  | [d] => { results := [.lit (.bool true)], args := [d] }
  | _ => none }
def serialOnceRow : OpenClaim := { program := "ytheamfnbfgiaeaagreat", sum := "c442f7a6a15abd957419842acee96a11747e54097bf1d86a3554abfb0a9e937c", func := "trivet/trivetlaw17.SerialOnce", spec := "serialOnce", unfollowed := true, recurses := true, plainKeys := false, apart := false }
def SerialOnceSaid : Prop := serialOnceRow.holds Tryz.pinned (OpenSpec.ofChange serialOnceSpec)

/-- ITS FALSE NEIGHBOUR: 'it returns false'. Refute it at one input. -/
def serialOnceWrong : ChangeSpec := { name := "serialOnce", fn := fun _ => fun
  | [d] => { results := [.lit (.bool false)], args := [d] }
  | _ => none }
def SerialOnceWrongFalsely : Prop := serialOnceRow.holds Tryz.pinned (OpenSpec.ofChange serialOnceWrong)

/-- 'trivetlaw17.SerialNone': WHATEVER THE INPUT: true; the input reads as it did. -/
def serialNoneSpec : ChangeSpec := { name := "serialNone", fn := fun _ => fun
  | [d1, d2] => { results := [.lit (.bool true)], args := [d1, d2] }
  | _ => none }
def serialNoneRow : OpenClaim := { program := "ytheamfnbfgiaeaagreat", sum := "c442f7a6a15abd957419842acee96a11747e54097bf1d86a3554abfb0a9e937c", func := "trivet/trivetlaw17.SerialNone", spec := "serialNone", inPlace := ["maps.clone"], unfollowed := true, recurses := true, plainKeys := false, apart := false }
def SerialNoneSaid : Prop := serialNoneRow.holds Tryz.pinned (OpenSpec.ofChange serialNoneSpec)

/-- ITS FALSE NEIGHBOUR: 'it returns false'. Refute it at one input. -/
def serialNoneWrong : ChangeSpec := { name := "serialNone", fn := fun _ => fun
  | [d1, d2] => { results := [.lit (.bool false)], args := [d1, d2] }
  | _ => none }
def SerialNoneWrongFalsely : Prop := serialNoneRow.holds Tryz.pinned (OpenSpec.ofChange serialNoneWrong)

/-- 'trivetlaw17.SerialReplays': WHATEVER THE INPUT: true; the input reads as it did. -/
def serialReplaysSpec : ChangeSpec := { name := "serialReplays", fn := fun _ => fun
  | [d1, d2] => { results := [.lit (.bool true)], args := [d1, d2] }
  | _ => none }
def serialReplaysRow : OpenClaim := { program := "ytheamfnbfgiaeaagreat", sum := "c442f7a6a15abd957419842acee96a11747e54097bf1d86a3554abfb0a9e937c", func := "trivet/trivetlaw17.SerialReplays", spec := "serialReplays", inPlace := ["maps.clone"], unfollowed := true, recurses := true, plainKeys := false, apart := false }
def SerialReplaysSaid : Prop := serialReplaysRow.holds Tryz.pinned (OpenSpec.ofChange serialReplaysSpec)

/-- ITS FALSE NEIGHBOUR: 'it returns false'. Refute it at one input. -/
def serialReplaysWrong : ChangeSpec := { name := "serialReplays", fn := fun _ => fun
  | [d1, d2] => { results := [.lit (.bool false)], args := [d1, d2] }
  | _ => none }
def SerialReplaysWrongFalsely : Prop := serialReplaysRow.holds Tryz.pinned (OpenSpec.ofChange serialReplaysWrong)

/- THE SECOND FORM. 'bulk': how many values and letters a reading holds, each counted each time it is reached (what is shared counts as often as it is met; a slice's spare places count too). A statement '..UptoSaid' is the law's where the arguments, and the package variables that the reading takes, are together of bulk at most 1048576: NARROWER than '..Said'. Prove '..Said' where nothing that the law and all that it calls make is longer than what came in: it says more and counts as full. Else prove '..UptoSaid'. A law counts once. -/
mutual
def uptoBulk {H : Type} : DataW H → Nat
  | .lit (.string bytes) => bytes.length + 1
  | .lit _ => 1
  | .nil => 1
  | .ptr d => uptoBulk d + 1
  | .slice elems spare => uptoBulkAll elems + uptoBulkAll spare + 1
  | .agg parts => uptoBulkAll parts + 1
  | .iface _ d => uptoBulk d + 1
  | .map entries => uptoBulkEntries entries + 1
  | .held _ => 1
def uptoBulkAll {H : Type} : List (DataW H) → Nat
  | [] => 0
  | d :: r => uptoBulk d + uptoBulkAll r
def uptoBulkEntries {H : Type} : List (Lit × DataW H) → Nat
  | [] => 0
  | x :: r => uptoBulkEntry x + uptoBulkEntries r
def uptoBulkEntry {H : Type} : Lit × DataW H → Nat
  | (.string bytes, d) => bytes.length + uptoBulk d + 1
  | (_, d) => uptoBulk d + 1
 end
def uptoSmall : (H : Type) → List (DataW H) → Bool := fun _ ds => decide (uptoBulkAll ds ≤ 1048576)
def OpenSpec.upto (s : _root_.Go.ChangeSpec) : _root_.Go.OpenSpec := { _root_.Go.OpenSpec.ofChange s with cond := some uptoSmall }

/-- 'trivetlaw17.SerialSteps', WHERE WHAT IT READS IS OF BULK AT MOST 1048576: true; the input reads as it did. -/
def serialStepsUptoRow : OpenClaim := { program := "ytheamfnbfgiaeaagreat", sum := "c442f7a6a15abd957419842acee96a11747e54097bf1d86a3554abfb0a9e937c", func := "trivet/trivetlaw17.SerialSteps", spec := "serialSteps", unfollowed := true, recurses := true, plainKeys := false, apart := false, narrowed := true }
def SerialStepsUptoSaid : Prop := serialStepsUptoRow.holds Tryz.pinned (OpenSpec.upto serialStepsSpec)

/-- 'trivetlaw17.SerialOwn', WHERE WHAT IT READS IS OF BULK AT MOST 1048576: true; the input reads as it did. -/
def serialOwnUptoRow : OpenClaim := { program := "ytheamfnbfgiaeaagreat", sum := "c442f7a6a15abd957419842acee96a11747e54097bf1d86a3554abfb0a9e937c", func := "trivet/trivetlaw17.SerialOwn", spec := "serialOwn", unfollowed := true, recurses := true, plainKeys := false, apart := false, narrowed := true }
def SerialOwnUptoSaid : Prop := serialOwnUptoRow.holds Tryz.pinned (OpenSpec.upto serialOwnSpec)

/-- 'trivetlaw17.SerialDoes', WHERE WHAT IT READS IS OF BULK AT MOST 1048576: true; the input reads as it did. -/
def serialDoesUptoRow : OpenClaim := { program := "ytheamfnbfgiaeaagreat", sum := "c442f7a6a15abd957419842acee96a11747e54097bf1d86a3554abfb0a9e937c", func := "trivet/trivetlaw17.SerialDoes", spec := "serialDoes", unfollowed := true, recurses := true, plainKeys := false, apart := false, narrowed := true }
def SerialDoesUptoSaid : Prop := serialDoesUptoRow.holds Tryz.pinned (OpenSpec.upto serialDoesSpec)

/-- 'trivetlaw17.SerialOnce', WHERE WHAT IT READS IS OF BULK AT MOST 1048576: true; the input reads as it did. -/
def serialOnceUptoRow : OpenClaim := { program := "ytheamfnbfgiaeaagreat", sum := "c442f7a6a15abd957419842acee96a11747e54097bf1d86a3554abfb0a9e937c", func := "trivet/trivetlaw17.SerialOnce", spec := "serialOnce", unfollowed := true, recurses := true, plainKeys := false, apart := false, narrowed := true }
def SerialOnceUptoSaid : Prop := serialOnceUptoRow.holds Tryz.pinned (OpenSpec.upto serialOnceSpec)

/-- 'trivetlaw17.SerialNone', WHERE WHAT IT READS IS OF BULK AT MOST 1048576: true; the input reads as it did. -/
def serialNoneUptoRow : OpenClaim := { program := "ytheamfnbfgiaeaagreat", sum := "c442f7a6a15abd957419842acee96a11747e54097bf1d86a3554abfb0a9e937c", func := "trivet/trivetlaw17.SerialNone", spec := "serialNone", inPlace := ["maps.clone"], unfollowed := true, recurses := true, plainKeys := false, apart := false, narrowed := true }
def SerialNoneUptoSaid : Prop := serialNoneUptoRow.holds Tryz.pinned (OpenSpec.upto serialNoneSpec)

/-- 'trivetlaw17.SerialReplays', WHERE WHAT IT READS IS OF BULK AT MOST 1048576: true; the input reads as it did. -/
def serialReplaysUptoRow : OpenClaim := { program := "ytheamfnbfgiaeaagreat", sum := "c442f7a6a15abd957419842acee96a11747e54097bf1d86a3554abfb0a9e937c", func := "trivet/trivetlaw17.SerialReplays", spec := "serialReplays", inPlace := ["maps.clone"], unfollowed := true, recurses := true, plainKeys := false, apart := false, narrowed := true }
def SerialReplaysUptoSaid : Prop := serialReplaysUptoRow.holds Tryz.pinned (OpenSpec.upto serialReplaysSpec)

end Rows
end Go.Proofs.YtheamfnbfgiaeaaGreat
