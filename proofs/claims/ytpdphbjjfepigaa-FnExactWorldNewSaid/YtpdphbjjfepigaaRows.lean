/-
  No cell of these rows narrows 'for every input' (looked for: loops, veiled, ifaces, maps, wideKeys, modest, calm, conditions, laid).
  DERIVED. THE GIVEN ROWS OF THIS SEAT. 8 by the template 'for every input the law returns true; each argument reads behind the call as it read before'; 0 by the template 'total and deterministic' (their statements: YtpdphbjjfepigaaTotals.lean).
  GIVEN WITH THE SEED: the statements are not yours to turn. If you find one false, say at which input.
  Laid BY PROGRAM, IN A SANDBOX (cutbox-rows.mjs): the forced cells as the released guide's own fill.sh prints them over the translation 03f975db1c25275c… (all of the seat's roots in one cut). By AI agents, Wed Nov 11 2026. No macro, syntax, notation, axiom, sorry.
-/
import Derived.Test.YtpdphbjjfepigaaChecked
import GoSem.Claim
import GoSem.ClaimJoined
import GoSem.ClaimMapViews
import Derived.JoinedTies
import Derived.KernelRfl
namespace Go.Proofs.Ytpdphbjjfepigaa
/- THE CELL 'sum', in the pinned program and in every row, IS THE sha256 OF THE DUMP (.gsa) THAT YtpdphbjjfepigaaProg.lean LOADS. Nothing in Lean hashes anything: it is a label: what it is worth is what the hold of that sum in a sandbox is worth. -/
noncomputable def Try.pinned : Pinned := { name := "ytpdphbjjfepigaa", sum := "03f975db1c25275c688c1a0a58dac1a2a23bf0f5b3cd5da590d04b3ae513251e", checked := Try.checked }
namespace Rows
def none {H : Type} : Left H := { results := [], args := [] }

/-- 'laws.FnExactClientNew': WHATEVER THE INPUT: true; the input reads as it did. -/
def fnExactClientNewSpec : ChangeSpec := { name := "fnExactClientNew", fn := fun _ => fun
  | [d] => { results := [.lit (.bool true)], args := [d] }
  | _ => none }
def fnExactClientNewRow : OpenClaim := { program := "ytpdphbjjfepigaa", sum := "03f975db1c25275c688c1a0a58dac1a2a23bf0f5b3cd5da590d04b3ae513251e", func := "loop.example/wellhead/laws.FnExactClientNew", spec := "fnExactClientNew", apart := false }
def FnExactClientNewSaid : Prop := fnExactClientNewRow.holds Try.pinned (OpenSpec.ofChange fnExactClientNewSpec)

/-- ITS FALSE NEIGHBOUR: 'it returns false'. Refute it at one input. -/
def fnExactClientNewWrong : ChangeSpec := { name := "fnExactClientNew", fn := fun _ => fun
  | [d] => { results := [.lit (.bool false)], args := [d] }
  | _ => none }
def FnExactClientNewWrongFalsely : Prop := fnExactClientNewRow.holds Try.pinned (OpenSpec.ofChange fnExactClientNewWrong)

/-- 'laws.FnExactClientOk': WHATEVER THE INPUT: true; the input reads as it did. -/
def fnExactClientOkSpec : ChangeSpec := { name := "fnExactClientOk", fn := fun _ => fun
  | [d] => { results := [.lit (.bool true)], args := [d] }
  | _ => none }
def fnExactClientOkRow : OpenClaim := { program := "ytpdphbjjfepigaa", sum := "03f975db1c25275c688c1a0a58dac1a2a23bf0f5b3cd5da590d04b3ae513251e", func := "loop.example/wellhead/laws.FnExactClientOk", spec := "fnExactClientOk", apart := false }
def FnExactClientOkSaid : Prop := fnExactClientOkRow.holds Try.pinned (OpenSpec.ofChange fnExactClientOkSpec)

/-- ITS FALSE NEIGHBOUR: 'it returns false'. Refute it at one input. -/
def fnExactClientOkWrong : ChangeSpec := { name := "fnExactClientOk", fn := fun _ => fun
  | [d] => { results := [.lit (.bool false)], args := [d] }
  | _ => none }
def FnExactClientOkWrongFalsely : Prop := fnExactClientOkRow.holds Try.pinned (OpenSpec.ofChange fnExactClientOkWrong)

/-- 'laws.FnExactClientText': WHATEVER THE INPUT: true; the input reads as it did. -/
def fnExactClientTextSpec : ChangeSpec := { name := "fnExactClientText", fn := fun _ => fun
  | [d] => { results := [.lit (.bool true)], args := [d] }
  | _ => none }
def fnExactClientTextRow : OpenClaim := { program := "ytpdphbjjfepigaa", sum := "03f975db1c25275c688c1a0a58dac1a2a23bf0f5b3cd5da590d04b3ae513251e", func := "loop.example/wellhead/laws.FnExactClientText", spec := "fnExactClientText", apart := false }
def FnExactClientTextSaid : Prop := fnExactClientTextRow.holds Try.pinned (OpenSpec.ofChange fnExactClientTextSpec)

/-- ITS FALSE NEIGHBOUR: 'it returns false'. Refute it at one input. -/
def fnExactClientTextWrong : ChangeSpec := { name := "fnExactClientText", fn := fun _ => fun
  | [d] => { results := [.lit (.bool false)], args := [d] }
  | _ => none }
def FnExactClientTextWrongFalsely : Prop := fnExactClientTextRow.holds Try.pinned (OpenSpec.ofChange fnExactClientTextWrong)

/-- 'laws.FnExactClientTick': WHATEVER THE INPUT: true; the input reads as it did. -/
def fnExactClientTickSpec : ChangeSpec := { name := "fnExactClientTick", fn := fun _ => fun
  | [d] => { results := [.lit (.bool true)], args := [d] }
  | _ => none }
def fnExactClientTickRow : OpenClaim := { program := "ytpdphbjjfepigaa", sum := "03f975db1c25275c688c1a0a58dac1a2a23bf0f5b3cd5da590d04b3ae513251e", func := "loop.example/wellhead/laws.FnExactClientTick", spec := "fnExactClientTick", apart := false }
def FnExactClientTickSaid : Prop := fnExactClientTickRow.holds Try.pinned (OpenSpec.ofChange fnExactClientTickSpec)

/-- ITS FALSE NEIGHBOUR: 'it returns false'. Refute it at one input. -/
def fnExactClientTickWrong : ChangeSpec := { name := "fnExactClientTick", fn := fun _ => fun
  | [d] => { results := [.lit (.bool false)], args := [d] }
  | _ => none }
def FnExactClientTickWrongFalsely : Prop := fnExactClientTickRow.holds Try.pinned (OpenSpec.ofChange fnExactClientTickWrong)

/-- 'laws.FnExactClientStop': WHATEVER THE INPUT: true; the input reads as it did. -/
def fnExactClientStopSpec : ChangeSpec := { name := "fnExactClientStop", fn := fun _ => fun
  | [d] => { results := [.lit (.bool true)], args := [d] }
  | _ => none }
def fnExactClientStopRow : OpenClaim := { program := "ytpdphbjjfepigaa", sum := "03f975db1c25275c688c1a0a58dac1a2a23bf0f5b3cd5da590d04b3ae513251e", func := "loop.example/wellhead/laws.FnExactClientStop", spec := "fnExactClientStop", apart := false }
def FnExactClientStopSaid : Prop := fnExactClientStopRow.holds Try.pinned (OpenSpec.ofChange fnExactClientStopSpec)

/-- ITS FALSE NEIGHBOUR: 'it returns false'. Refute it at one input. -/
def fnExactClientStopWrong : ChangeSpec := { name := "fnExactClientStop", fn := fun _ => fun
  | [d] => { results := [.lit (.bool false)], args := [d] }
  | _ => none }
def FnExactClientStopWrongFalsely : Prop := fnExactClientStopRow.holds Try.pinned (OpenSpec.ofChange fnExactClientStopWrong)

/-- 'laws.FnExactClientOpen': WHATEVER THE INPUT: true; the input reads as it did. -/
def fnExactClientOpenSpec : ChangeSpec := { name := "fnExactClientOpen", fn := fun _ => fun
  | [d1, d2] => { results := [.lit (.bool true)], args := [d1, d2] }
  | _ => none }
def fnExactClientOpenRow : OpenClaim := { program := "ytpdphbjjfepigaa", sum := "03f975db1c25275c688c1a0a58dac1a2a23bf0f5b3cd5da590d04b3ae513251e", func := "loop.example/wellhead/laws.FnExactClientOpen", spec := "fnExactClientOpen", apart := false }
def FnExactClientOpenSaid : Prop := fnExactClientOpenRow.holds Try.pinned (OpenSpec.ofChange fnExactClientOpenSpec)

/-- ITS FALSE NEIGHBOUR: 'it returns false'. Refute it at one input. -/
def fnExactClientOpenWrong : ChangeSpec := { name := "fnExactClientOpen", fn := fun _ => fun
  | [d1, d2] => { results := [.lit (.bool false)], args := [d1, d2] }
  | _ => none }
def FnExactClientOpenWrongFalsely : Prop := fnExactClientOpenRow.holds Try.pinned (OpenSpec.ofChange fnExactClientOpenWrong)

/-- 'laws.FnExactClientAgain': WHATEVER THE INPUT: true; the input reads as it did. -/
def fnExactClientAgainSpec : ChangeSpec := { name := "fnExactClientAgain", fn := fun _ => fun
  | [d] => { results := [.lit (.bool true)], args := [d] }
  | _ => none }
def fnExactClientAgainRow : OpenClaim := { program := "ytpdphbjjfepigaa", sum := "03f975db1c25275c688c1a0a58dac1a2a23bf0f5b3cd5da590d04b3ae513251e", func := "loop.example/wellhead/laws.FnExactClientAgain", spec := "fnExactClientAgain", apart := false }
def FnExactClientAgainSaid : Prop := fnExactClientAgainRow.holds Try.pinned (OpenSpec.ofChange fnExactClientAgainSpec)

/-- ITS FALSE NEIGHBOUR: 'it returns false'. Refute it at one input. -/
def fnExactClientAgainWrong : ChangeSpec := { name := "fnExactClientAgain", fn := fun _ => fun
  | [d] => { results := [.lit (.bool false)], args := [d] }
  | _ => none }
def FnExactClientAgainWrongFalsely : Prop := fnExactClientAgainRow.holds Try.pinned (OpenSpec.ofChange fnExactClientAgainWrong)

/-- 'laws.FnExactWorldNew': WHATEVER THE INPUT: true; the input reads as it did. -/
def fnExactWorldNewSpec : ChangeSpec := { name := "fnExactWorldNew", fn := fun _ => fun
  | [] => { results := [.lit (.bool true)], args := [] }
  | _ => none }
def fnExactWorldNewRow : OpenClaim := { program := "ytpdphbjjfepigaa", sum := "03f975db1c25275c688c1a0a58dac1a2a23bf0f5b3cd5da590d04b3ae513251e", func := "loop.example/wellhead/laws.FnExactWorldNew", spec := "fnExactWorldNew", apart := false }
def FnExactWorldNewSaid : Prop := fnExactWorldNewRow.holds Try.pinned (OpenSpec.ofChange fnExactWorldNewSpec)

/-- ITS FALSE NEIGHBOUR: 'it returns false'. Refute it at one input. -/
def fnExactWorldNewWrong : ChangeSpec := { name := "fnExactWorldNew", fn := fun _ => fun
  | [] => { results := [.lit (.bool false)], args := [] }
  | _ => none }
def FnExactWorldNewWrongFalsely : Prop := fnExactWorldNewRow.holds Try.pinned (OpenSpec.ofChange fnExactWorldNewWrong)

/- THE SECOND FORM. 'bulk': how many values and letters a reading holds, each counted each time it is reached (what is shared counts as often as it is met; a slice's spare places count too). A statement '..UptoSaid' is the law's where the arguments, and the package variables that the reading takes, are together of bulk at most 1048576: NARROWER than '..Said'. Prove '..Said' where nothing that the law and all that it calls make is longer than what came in: it says more and counts as full. Else prove '..UptoSaid'. A law counts once. -/
mutual
def uptoBulk {H : Type} : DataW H → Nat
  | .lit (.string bytes) => bytes.length + 1
  | .lit _ => 1
  | .nil => 1
  | .ptr d => uptoBulk d + 1
  | .slice elems spare => uptoBulkAll elems + uptoBulkAll spare + 1
  | .agg parts => uptoBulkAll parts + 1
  | .iface _ d => uptoBulk d + 1
  | .map entries => uptoBulkEntries entries + 1
  | .held _ => 1
def uptoBulkAll {H : Type} : List (DataW H) → Nat
  | [] => 0
  | d :: r => uptoBulk d + uptoBulkAll r
def uptoBulkEntries {H : Type} : List (Lit × DataW H) → Nat
  | [] => 0
  | x :: r => uptoBulkEntry x + uptoBulkEntries r
def uptoBulkEntry {H : Type} : Lit × DataW H → Nat
  | (.string bytes, d) => bytes.length + uptoBulk d + 1
  | (_, d) => uptoBulk d + 1
 end
def uptoSmall : (H : Type) → List (DataW H) → Bool := fun _ ds => decide (uptoBulkAll ds ≤ 1048576)
def OpenSpec.upto (s : _root_.Go.ChangeSpec) : _root_.Go.OpenSpec := { _root_.Go.OpenSpec.ofChange s with cond := some uptoSmall }

/-- 'laws.FnExactClientNew', WHERE WHAT IT READS IS OF BULK AT MOST 1048576: true; the input reads as it did. -/
def fnExactClientNewUptoRow : OpenClaim := { program := "ytpdphbjjfepigaa", sum := "03f975db1c25275c688c1a0a58dac1a2a23bf0f5b3cd5da590d04b3ae513251e", func := "loop.example/wellhead/laws.FnExactClientNew", spec := "fnExactClientNew", apart := false, narrowed := true }
def FnExactClientNewUptoSaid : Prop := fnExactClientNewUptoRow.holds Try.pinned (OpenSpec.upto fnExactClientNewSpec)

/-- 'laws.FnExactClientOk', WHERE WHAT IT READS IS OF BULK AT MOST 1048576: true; the input reads as it did. -/
def fnExactClientOkUptoRow : OpenClaim := { program := "ytpdphbjjfepigaa", sum := "03f975db1c25275c688c1a0a58dac1a2a23bf0f5b3cd5da590d04b3ae513251e", func := "loop.example/wellhead/laws.FnExactClientOk", spec := "fnExactClientOk", apart := false, narrowed := true }
def FnExactClientOkUptoSaid : Prop := fnExactClientOkUptoRow.holds Try.pinned (OpenSpec.upto fnExactClientOkSpec)

/-- 'laws.FnExactClientText', WHERE WHAT IT READS IS OF BULK AT MOST 1048576: true; the input reads as it did. -/
def fnExactClientTextUptoRow : OpenClaim := { program := "ytpdphbjjfepigaa", sum := "03f975db1c25275c688c1a0a58dac1a2a23bf0f5b3cd5da590d04b3ae513251e", func := "loop.example/wellhead/laws.FnExactClientText", spec := "fnExactClientText", apart := false, narrowed := true }
def FnExactClientTextUptoSaid : Prop := fnExactClientTextUptoRow.holds Try.pinned (OpenSpec.upto fnExactClientTextSpec)

/-- 'laws.FnExactClientTick', WHERE WHAT IT READS IS OF BULK AT MOST 1048576: true; the input reads as it did. -/
def fnExactClientTickUptoRow : OpenClaim := { program := "ytpdphbjjfepigaa", sum := "03f975db1c25275c688c1a0a58dac1a2a23bf0f5b3cd5da590d04b3ae513251e", func := "loop.example/wellhead/laws.FnExactClientTick", spec := "fnExactClientTick", apart := false, narrowed := true }
def FnExactClientTickUptoSaid : Prop := fnExactClientTickUptoRow.holds Try.pinned (OpenSpec.upto fnExactClientTickSpec)

/-- 'laws.FnExactClientStop', WHERE WHAT IT READS IS OF BULK AT MOST 1048576: true; the input reads as it did. -/
def fnExactClientStopUptoRow : OpenClaim := { program := "ytpdphbjjfepigaa", sum := "03f975db1c25275c688c1a0a58dac1a2a23bf0f5b3cd5da590d04b3ae513251e", func := "loop.example/wellhead/laws.FnExactClientStop", spec := "fnExactClientStop", apart := false, narrowed := true }
def FnExactClientStopUptoSaid : Prop := fnExactClientStopUptoRow.holds Try.pinned (OpenSpec.upto fnExactClientStopSpec)

/-- 'laws.FnExactClientOpen', WHERE WHAT IT READS IS OF BULK AT MOST 1048576: true; the input reads as it did. -/
def fnExactClientOpenUptoRow : OpenClaim := { program := "ytpdphbjjfepigaa", sum := "03f975db1c25275c688c1a0a58dac1a2a23bf0f5b3cd5da590d04b3ae513251e", func := "loop.example/wellhead/laws.FnExactClientOpen", spec := "fnExactClientOpen", apart := false, narrowed := true }
def FnExactClientOpenUptoSaid : Prop := fnExactClientOpenUptoRow.holds Try.pinned (OpenSpec.upto fnExactClientOpenSpec)

/-- 'laws.FnExactClientAgain', WHERE WHAT IT READS IS OF BULK AT MOST 1048576: true; the input reads as it did. -/
def fnExactClientAgainUptoRow : OpenClaim := { program := "ytpdphbjjfepigaa", sum := "03f975db1c25275c688c1a0a58dac1a2a23bf0f5b3cd5da590d04b3ae513251e", func := "loop.example/wellhead/laws.FnExactClientAgain", spec := "fnExactClientAgain", apart := false, narrowed := true }
def FnExactClientAgainUptoSaid : Prop := fnExactClientAgainUptoRow.holds Try.pinned (OpenSpec.upto fnExactClientAgainSpec)

/-- 'laws.FnExactWorldNew', WHERE WHAT IT READS IS OF BULK AT MOST 1048576: true; the input reads as it did. -/
def fnExactWorldNewUptoRow : OpenClaim := { program := "ytpdphbjjfepigaa", sum := "03f975db1c25275c688c1a0a58dac1a2a23bf0f5b3cd5da590d04b3ae513251e", func := "loop.example/wellhead/laws.FnExactWorldNew", spec := "fnExactWorldNew", apart := false, narrowed := true }
def FnExactWorldNewUptoSaid : Prop := fnExactWorldNewUptoRow.holds Try.pinned (OpenSpec.upto fnExactWorldNewSpec)

end Rows
end Go.Proofs.Ytpdphbjjfepigaa
