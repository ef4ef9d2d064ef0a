/-
  No cell of these rows narrows 'for every input' (looked for: loops, veiled, ifaces, maps, wideKeys, modest, calm, conditions, laid).
  DERIVED. THE GIVEN ROWS OF THIS SEAT. 6 by the template 'for every input the law returns true; each argument reads behind the call as it read before'; 0 by the template 'total and deterministic' (their statements: YtbdljpndncohaaaTotals.lean).
  GIVEN WITH THE SEED: the statements are not yours to turn. If you find one false, say at which input.
  Laid BY PROGRAM, IN A SANDBOX (cutbox-rows.mjs): the forced cells as the released guide's own fill.sh prints them over the translation 0c693407b036938b… (all of the seat's roots in one cut). By AI agents, Wed Nov 11 2026. No macro, syntax, notation, axiom, sorry.
-/
import Derived.Test.YtbdljpndncohaaaChecked
import GoSem.Claim
import GoSem.ClaimJoined
import GoSem.ClaimMapViews
import Derived.JoinedTies
import Derived.KernelRfl
namespace Go.Proofs.Ytbdljpndncohaaa
/- THE CELL 'sum', in the pinned program and in every row, IS THE sha256 OF THE DUMP (.gsa) THAT YtbdljpndncohaaaProg.lean LOADS. Nothing in Lean hashes anything: it is a label: what it is worth is what the hold of that sum in a sandbox is worth. -/
noncomputable def Try.pinned : Pinned := { name := "ytbdljpndncohaaa", sum := "0c693407b036938b965c5b4c0ca8864a229efb74cfaad8c3a2e677993436acb3", checked := Try.checked }
namespace Rows
def none {H : Type} : Left H := { results := [], args := [] }

/-- 'trivetlaw25.ClientAsks': WHATEVER THE INPUT: true; the input reads as it did. -/
def clientAsksSpec : ChangeSpec := { name := "clientAsks", fn := fun _ => fun
  | [d1, d2] => { results := [.lit (.bool true)], args := [d1, d2] }
  | _ => none }
def clientAsksRow : OpenClaim := { program := "ytbdljpndncohaaa", sum := "0c693407b036938b965c5b4c0ca8864a229efb74cfaad8c3a2e677993436acb3", func := "trivet/trivetlaw25.ClientAsks", spec := "clientAsks", unfollowed := true, recurses := true, apart := false }
def ClientAsksSaid : Prop := clientAsksRow.holds Try.pinned (OpenSpec.ofChange clientAsksSpec)

/-- ITS FALSE NEIGHBOUR: 'it returns false'. Refute it at one input. -/
def clientAsksWrong : ChangeSpec := { name := "clientAsks", fn := fun _ => fun
  | [d1, d2] => { results := [.lit (.bool false)], args := [d1, d2] }
  | _ => none }
def ClientAsksWrongFalsely : Prop := clientAsksRow.holds Try.pinned (OpenSpec.ofChange clientAsksWrong)

/-- 'trivetlaw25.ClientOwn': WHATEVER THE INPUT: true; the input reads as it did. -/
def clientOwnSpec : ChangeSpec := { name := "clientOwn", fn := fun _ => fun
  | [d] => { results := [.lit (.bool true)], args := [d] }
  | _ => none }
def clientOwnRow : OpenClaim := { program := "ytbdljpndncohaaa", sum := "0c693407b036938b965c5b4c0ca8864a229efb74cfaad8c3a2e677993436acb3", func := "trivet/trivetlaw25.ClientOwn", spec := "clientOwn", unfollowed := true, recurses := true, apart := false }
def ClientOwnSaid : Prop := clientOwnRow.holds Try.pinned (OpenSpec.ofChange clientOwnSpec)

/-- ITS FALSE NEIGHBOUR: 'it returns false'. Refute it at one input. -/
def clientOwnWrong : ChangeSpec := { name := "clientOwn", fn := fun _ => fun
  | [d] => { results := [.lit (.bool false)], args := [d] }
  | _ => none }
def ClientOwnWrongFalsely : Prop := clientOwnRow.holds Try.pinned (OpenSpec.ofChange clientOwnWrong)

/-- 'trivetlaw25.ClientNormal': WHATEVER THE INPUT: true; the input reads as it did. -/
def clientNormalSpec : ChangeSpec := { name := "clientNormal", fn := fun _ => fun
  | [d1, d2] => { results := [.lit (.bool true)], args := [d1, d2] }
  | _ => none }
def clientNormalRow : OpenClaim := { program := "ytbdljpndncohaaa", sum := "0c693407b036938b965c5b4c0ca8864a229efb74cfaad8c3a2e677993436acb3", func := "trivet/trivetlaw25.ClientNormal", spec := "clientNormal", unfollowed := true, recurses := true, apart := false }
def ClientNormalSaid : Prop := clientNormalRow.holds Try.pinned (OpenSpec.ofChange clientNormalSpec)

/-- ITS FALSE NEIGHBOUR: 'it returns false'. Refute it at one input. -/
def clientNormalWrong : ChangeSpec := { name := "clientNormal", fn := fun _ => fun
  | [d1, d2] => { results := [.lit (.bool false)], args := [d1, d2] }
  | _ => none }
def ClientNormalWrongFalsely : Prop := clientNormalRow.holds Try.pinned (OpenSpec.ofChange clientNormalWrong)

/-- 'trivetlaw25.ClientTokens': WHATEVER THE INPUT: true; the input reads as it did. -/
def clientTokensSpec : ChangeSpec := { name := "clientTokens", fn := fun _ => fun
  | [d] => { results := [.lit (.bool true)], args := [d] }
  | _ => none }
def clientTokensRow : OpenClaim := { program := "ytbdljpndncohaaa", sum := "0c693407b036938b965c5b4c0ca8864a229efb74cfaad8c3a2e677993436acb3", func := "trivet/trivetlaw25.ClientTokens", spec := "clientTokens", unfollowed := true, recurses := true, apart := false }
def ClientTokensSaid : Prop := clientTokensRow.holds Try.pinned (OpenSpec.ofChange clientTokensSpec)

/-- ITS FALSE NEIGHBOUR: 'it returns false'. Refute it at one input. -/
def clientTokensWrong : ChangeSpec := { name := "clientTokens", fn := fun _ => fun
  | [d] => { results := [.lit (.bool false)], args := [d] }
  | _ => none }
def ClientTokensWrongFalsely : Prop := clientTokensRow.holds Try.pinned (OpenSpec.ofChange clientTokensWrong)

/-- 'trivetlaw25.ClientDoes': WHATEVER THE INPUT: true; the input reads as it did. -/
def clientDoesSpec : ChangeSpec := { name := "clientDoes", fn := fun _ => fun
  | [d1, d2, d3] => { results := [.lit (.bool true)], args := [d1, d2, d3] }
  | _ => none }
def clientDoesRow : OpenClaim := { program := "ytbdljpndncohaaa", sum := "0c693407b036938b965c5b4c0ca8864a229efb74cfaad8c3a2e677993436acb3", func := "trivet/trivetlaw25.ClientDoes", spec := "clientDoes", unfollowed := true, recurses := true, apart := false }
def ClientDoesSaid : Prop := clientDoesRow.holds Try.pinned (OpenSpec.ofChange clientDoesSpec)

/-- ITS FALSE NEIGHBOUR: 'it returns false'. Refute it at one input. -/
def clientDoesWrong : ChangeSpec := { name := "clientDoes", fn := fun _ => fun
  | [d1, d2, d3] => { results := [.lit (.bool false)], args := [d1, d2, d3] }
  | _ => none }
def ClientDoesWrongFalsely : Prop := clientDoesRow.holds Try.pinned (OpenSpec.ofChange clientDoesWrong)

/-- 'trivetlaw25.ClientNone': WHATEVER THE INPUT: true; the input reads as it did. -/
def clientNoneSpec : ChangeSpec := { name := "clientNone", fn := fun _ => fun
  | [d] => { results := [.lit (.bool true)], args := [d] }
  | _ => none }
def clientNoneRow : OpenClaim := { program := "ytbdljpndncohaaa", sum := "0c693407b036938b965c5b4c0ca8864a229efb74cfaad8c3a2e677993436acb3", func := "trivet/trivetlaw25.ClientNone", spec := "clientNone", unfollowed := true, recurses := true, apart := false }
def ClientNoneSaid : Prop := clientNoneRow.holds Try.pinned (OpenSpec.ofChange clientNoneSpec)

/-- ITS FALSE NEIGHBOUR: 'it returns false'. Refute it at one input. -/
def clientNoneWrong : ChangeSpec := { name := "clientNone", fn := fun _ => fun
  | [d] => { results := [.lit (.bool false)], args := [d] }
  | _ => none }
def ClientNoneWrongFalsely : Prop := clientNoneRow.holds Try.pinned (OpenSpec.ofChange clientNoneWrong)

/- THE SECOND FORM. 'bulk': how many values and letters a reading holds, each counted each time it is reached (what is shared counts as often as it is met; a slice's spare places count too). A statement '..UptoSaid' is the law's where the arguments, and the package variables that the reading takes, are together of bulk at most 1048576: NARROWER than '..Said'. Prove '..Said' where nothing that the law and all that it calls make is longer than what came in: it says more and counts as full. Else prove '..UptoSaid'. A law counts once. -/
mutual
def uptoBulk {H : Type} : DataW H → Nat
  | .lit (.string bytes) => bytes.length + 1
  | .lit _ => 1
  | .nil => 1
  | .ptr d => uptoBulk d + 1
  | .slice elems spare => uptoBulkAll elems + uptoBulkAll spare + 1
  | .agg parts => uptoBulkAll parts + 1
  | .iface _ d => uptoBulk d + 1
  | .map entries => uptoBulkEntries entries + 1
  | .held _ => 1
def uptoBulkAll {H : Type} : List (DataW H) → Nat
  | [] => 0
  | d :: r => uptoBulk d + uptoBulkAll r
def uptoBulkEntries {H : Type} : List (Lit × DataW H) → Nat
  | [] => 0
  | x :: r => uptoBulkEntry x + uptoBulkEntries r
def uptoBulkEntry {H : Type} : Lit × DataW H → Nat
  | (.string bytes, d) => bytes.length + uptoBulk d + 1
  | (_, d) => uptoBulk d + 1
 end
def uptoSmall : (H : Type) → List (DataW H) → Bool := fun _ ds => decide (uptoBulkAll ds ≤ 1048576)
def OpenSpec.upto (s : _root_.Go.ChangeSpec) : _root_.Go.OpenSpec := { _root_.Go.OpenSpec.ofChange s with cond := some uptoSmall }

/-- 'trivetlaw25.ClientAsks', WHERE WHAT IT READS IS OF BULK AT MOST 1048576: true; the input reads as it did. -/
def clientAsksUptoRow : OpenClaim := { program := "ytbdljpndncohaaa", sum := "0c693407b036938b965c5b4c0ca8864a229efb74cfaad8c3a2e677993436acb3", func := "trivet/trivetlaw25.ClientAsks", spec := "clientAsks", unfollowed := true, recurses := true, apart := false, narrowed := true }
def ClientAsksUptoSaid : Prop := clientAsksUptoRow.holds Try.pinned (OpenSpec.upto clientAsksSpec)

/-- 'trivetlaw25.ClientOwn', WHERE WHAT IT READS IS OF BULK AT MOST 1048576: true; the input reads as it did. -/
def clientOwnUptoRow : OpenClaim := { program := "ytbdljpndncohaaa", sum := "0c693407b036938b965c5b4c0ca8864a229efb74cfaad8c3a2e677993436acb3", func := "trivet/trivetlaw25.ClientOwn", spec := "clientOwn", unfollowed := true, recurses := true, apart := false, narrowed := true }
def ClientOwnUptoSaid : Prop := clientOwnUptoRow.holds Try.pinned (OpenSpec.upto clientOwnSpec)

/-- 'trivetlaw25.ClientNormal', WHERE WHAT IT READS IS OF BULK AT MOST 1048576: true; the input reads as it did. -/
def clientNormalUptoRow : OpenClaim := { program := "ytbdljpndncohaaa", sum := "0c693407b036938b965c5b4c0ca8864a229efb74cfaad8c3a2e677993436acb3", func := "trivet/trivetlaw25.ClientNormal", spec := "clientNormal", unfollowed := true, recurses := true, apart := false, narrowed := true }
def ClientNormalUptoSaid : Prop := clientNormalUptoRow.holds Try.pinned (OpenSpec.upto clientNormalSpec)

/-- 'trivetlaw25.ClientTokens', WHERE WHAT IT READS IS OF BULK AT MOST 1048576: true; the input reads as it did. -/
def clientTokensUptoRow : OpenClaim := { program := "ytbdljpndncohaaa", sum := "0c693407b036938b965c5b4c0ca8864a229efb74cfaad8c3a2e677993436acb3", func := "trivet/trivetlaw25.ClientTokens", spec := "clientTokens", unfollowed := true, recurses := true, apart := false, narrowed := true }
def ClientTokensUptoSaid : Prop := clientTokensUptoRow.holds Try.pinned (OpenSpec.upto clientTokensSpec)

/-- 'trivetlaw25.ClientDoes', WHERE WHAT IT READS IS OF BULK AT MOST 1048576: true; the input reads as it did. -/
def clientDoesUptoRow : OpenClaim := { program := "ytbdljpndncohaaa", sum := "0c693407b036938b965c5b4c0ca8864a229efb74cfaad8c3a2e677993436acb3", func := "trivet/trivetlaw25.ClientDoes", spec := "clientDoes", unfollowed := true, recurses := true, apart := false, narrowed := true }
def ClientDoesUptoSaid : Prop := clientDoesUptoRow.holds Try.pinned (OpenSpec.upto clientDoesSpec)

/-- 'trivetlaw25.ClientNone', WHERE WHAT IT READS IS OF BULK AT MOST 1048576: true; the input reads as it did. -/
def clientNoneUptoRow : OpenClaim := { program := "ytbdljpndncohaaa", sum := "0c693407b036938b965c5b4c0ca8864a229efb74cfaad8c3a2e677993436acb3", func := "trivet/trivetlaw25.ClientNone", spec := "clientNone", unfollowed := true, recurses := true, apart := false, narrowed := true }
def ClientNoneUptoSaid : Prop := clientNoneUptoRow.holds Try.pinned (OpenSpec.upto clientNoneSpec)

end Rows
end Go.Proofs.Ytbdljpndncohaaa
