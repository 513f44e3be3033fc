/-
  No cell of these rows narrows 'for every input' (looked for: loops, veiled, ifaces, maps, wideKeys, modest, calm, conditions, laid).
  DERIVED. THE GIVEN ROWS OF THIS SEAT. 3 by the template 'for every input the law returns true; each argument reads behind the call as it read before'; 0 by the template 'total and deterministic' (their statements: YthanhdmbelbfcaaGreatTotals.lean).
  GIVEN WITH THE SEED: the statements are not yours to turn. If you find one false, say at which input.
  Laid BY PROGRAM, IN A SANDBOX (cutbox-rows.mjs): the forced cells as the released guide's own fill.sh prints them over the translation 79081080bccdde58… (all of the seat's roots in one cut). By AI agents, Wed Nov 11 2026. No macro, syntax, notation, axiom, sorry.
-/
import Derived.Test.YthanhdmbelbfcaaGreatChecked
import GoSem.Claim
import GoSem.ClaimJoined
import GoSem.ClaimMapViews
import Derived.JoinedTies
import Derived.KernelRfl
namespace Go.Proofs.YthanhdmbelbfcaaGreat
/- THE CELL 'sum', in the pinned program and in every row, IS THE sha256 OF THE DUMP (.gsa) THAT YthanhdmbelbfcaaGreatProg.lean LOADS. Nothing in Lean hashes anything: it is a label: what it is worth is what the hold of that sum in a sandbox is worth. -/
noncomputable def Tryz.pinned : Pinned := { name := "ythanhdmbelbfcaagreat", sum := "79081080bccdde5825d9e931bce52d367f613931c3f2f1bc9699cb6bd22533d0", checked := Tryz.checked }
namespace Rows
def none {H : Type} : Left H := { results := [], args := [] }

/-- 'laws.FnClientTick': WHATEVER THE INPUT: true; the input reads as it did. -/
def fnClientTickSpec : ChangeSpec := { name := "fnClientTick", fn := fun _ => fun
  | [d] => { results := [.lit (.bool true)], args := [d] }
  | _ => none }
def fnClientTickRow : OpenClaim := { program := "ythanhdmbelbfcaagreat", sum := "79081080bccdde5825d9e931bce52d367f613931c3f2f1bc9699cb6bd22533d0", func := "loop.example/wellhead/laws.FnClientTick", spec := "fnClientTick", recurses := true, apart := false }
def FnClientTickSaid : Prop := fnClientTickRow.holds Tryz.pinned (OpenSpec.ofChange fnClientTickSpec)

/-- ITS FALSE NEIGHBOUR: 'it returns false'. Refute it at one input. -/
def fnClientTickWrong : ChangeSpec := { name := "fnClientTick", fn := fun _ => fun
  | [d] => { results := [.lit (.bool false)], args := [d] }
  | _ => none }
def FnClientTickWrongFalsely : Prop := fnClientTickRow.holds Tryz.pinned (OpenSpec.ofChange fnClientTickWrong)

/-- 'laws.FnClientOpen': WHATEVER THE INPUT: true; the input reads as it did. -/
def fnClientOpenSpec : ChangeSpec := { name := "fnClientOpen", fn := fun _ => fun
  | [d] => { results := [.lit (.bool true)], args := [d] }
  | _ => none }
def fnClientOpenRow : OpenClaim := { program := "ythanhdmbelbfcaagreat", sum := "79081080bccdde5825d9e931bce52d367f613931c3f2f1bc9699cb6bd22533d0", func := "loop.example/wellhead/laws.FnClientOpen", spec := "fnClientOpen", recurses := true, apart := false }
def FnClientOpenSaid : Prop := fnClientOpenRow.holds Tryz.pinned (OpenSpec.ofChange fnClientOpenSpec)

/-- ITS FALSE NEIGHBOUR: 'it returns false'. Refute it at one input. -/
def fnClientOpenWrong : ChangeSpec := { name := "fnClientOpen", fn := fun _ => fun
  | [d] => { results := [.lit (.bool false)], args := [d] }
  | _ => none }
def FnClientOpenWrongFalsely : Prop := fnClientOpenRow.holds Tryz.pinned (OpenSpec.ofChange fnClientOpenWrong)

/-- 'laws.FnClientAgain': WHATEVER THE INPUT: true; the input reads as it did. -/
def fnClientAgainSpec : ChangeSpec := { name := "fnClientAgain", fn := fun _ => fun
  | [d] => { results := [.lit (.bool true)], args := [d] }
  | _ => none }
def fnClientAgainRow : OpenClaim := { program := "ythanhdmbelbfcaagreat", sum := "79081080bccdde5825d9e931bce52d367f613931c3f2f1bc9699cb6bd22533d0", func := "loop.example/wellhead/laws.FnClientAgain", spec := "fnClientAgain", recurses := true, apart := false }
def FnClientAgainSaid : Prop := fnClientAgainRow.holds Tryz.pinned (OpenSpec.ofChange fnClientAgainSpec)

/-- ITS FALSE NEIGHBOUR: 'it returns false'. Refute it at one input. -/
def fnClientAgainWrong : ChangeSpec := { name := "fnClientAgain", fn := fun _ => fun
  | [d] => { results := [.lit (.bool false)], args := [d] }
  | _ => none }
def FnClientAgainWrongFalsely : Prop := fnClientAgainRow.holds Tryz.pinned (OpenSpec.ofChange fnClientAgainWrong)

/- THE SECOND FORM. 'bulk': how many values and letters a reading holds, each counted each time it is reached (what is shared counts as often as it is met; a slice's spare places count too). A statement '..UptoSaid' is the law's where the arguments, and the package variables that the reading takes, are together of bulk at most 1048576: NARROWER than '..Said'. Prove '..Said' where nothing that the law and all that it calls make is longer than what came in: it says more and counts as full. Else prove '..UptoSaid'. A law counts once. -/
mutual
def uptoBulk {H : Type} : DataW H → Nat
  | .lit (.string bytes) => bytes.length + 1
  | .lit _ => 1
  | .nil => 1
  | .ptr d => uptoBulk d + 1
  | .slice elems spare => uptoBulkAll elems + uptoBulkAll spare + 1
  | .agg parts => uptoBulkAll parts + 1
  | .iface _ d => uptoBulk d + 1
  | .map entries => uptoBulkEntries entries + 1
  | .held _ => 1
def uptoBulkAll {H : Type} : List (DataW H) → Nat
  | [] => 0
  | d :: r => uptoBulk d + uptoBulkAll r
def uptoBulkEntries {H : Type} : List (Lit × DataW H) → Nat
  | [] => 0
  | x :: r => uptoBulkEntry x + uptoBulkEntries r
def uptoBulkEntry {H : Type} : Lit × DataW H → Nat
  | (.string bytes, d) => bytes.length + uptoBulk d + 1
  | (_, d) => uptoBulk d + 1
 end
def uptoSmall : (H : Type) → List (DataW H) → Bool := fun _ ds => decide (uptoBulkAll ds ≤ 1048576)
def OpenSpec.upto (s : _root_.Go.ChangeSpec) : _root_.Go.OpenSpec := { _root_.Go.OpenSpec.ofChange s with cond := some uptoSmall }

/-- 'laws.FnClientTick', WHERE WHAT IT READS IS OF BULK AT MOST 1048576: true; the input reads as it did. -/
def fnClientTickUptoRow : OpenClaim := { program := "ythanhdmbelbfcaagreat", sum := "79081080bccdde5825d9e931bce52d367f613931c3f2f1bc9699cb6bd22533d0", func := "loop.example/wellhead/laws.FnClientTick", spec := "fnClientTick", recurses := true, apart := false, narrowed := true }
def FnClientTickUptoSaid : Prop := fnClientTickUptoRow.holds Tryz.pinned (OpenSpec.upto fnClientTickSpec)

/-- 'laws.FnClientOpen', WHERE WHAT IT READS IS OF BULK AT MOST 1048576: true; the input reads as it did. -/
def fnClientOpenUptoRow : OpenClaim := { program := "ythanhdmbelbfcaagreat", sum := "79081080bccdde5825d9e931bce52d367f613931c3f2f1bc9699cb6bd22533d0", func := "loop.example/wellhead/laws.FnClientOpen", spec := "fnClientOpen", recurses := true, apart := false, narrowed := true }
def FnClientOpenUptoSaid : Prop := fnClientOpenUptoRow.holds Tryz.pinned (OpenSpec.upto fnClientOpenSpec)

/-- 'laws.FnClientAgain', WHERE WHAT IT READS IS OF BULK AT MOST 1048576: true; the input reads as it did. -/
def fnClientAgainUptoRow : OpenClaim := { program := "ythanhdmbelbfcaagreat", sum := "79081080bccdde5825d9e931bce52d367f613931c3f2f1bc9699cb6bd22533d0", func := "loop.example/wellhead/laws.FnClientAgain", spec := "fnClientAgain", recurses := true, apart := false, narrowed := true }
def FnClientAgainUptoSaid : Prop := fnClientAgainUptoRow.holds Tryz.pinned (OpenSpec.upto fnClientAgainSpec)

end Rows
end Go.Proofs.YthanhdmbelbfcaaGreat
