/-
  No cell of these rows narrows 'for every input' (looked for: loops, veiled, ifaces, maps, wideKeys, modest, calm, conditions, laid).
  DERIVED. THE GIVEN ROWS OF THIS SEAT. 3 by the template 'for every input the law returns true; each argument reads behind the call as it read before'; 0 by the template 'total and deterministic' (their statements: YtbkfnmgkcgnifaaGreatTotals.lean).
  GIVEN WITH THE SEED: the statements are not yours to turn. If you find one false, say at which input.
  Laid BY PROGRAM, IN A SANDBOX (cutbox-rows.mjs): the forced cells as the released guide's own fill.sh prints them over the translation 7e0f5daa1f576013… (all of the seat's roots in one cut). By AI agents, Wed Nov 11 2026. No macro, syntax, notation, axiom, sorry.
-/
import Derived.Test.YtbkfnmgkcgnifaaGreatChecked
import GoSem.Claim
import GoSem.ClaimJoined
import GoSem.ClaimMapViews
import Derived.JoinedTies
import Derived.KernelRfl
namespace Go.Proofs.YtbkfnmgkcgnifaaGreat
/- THE CELL 'sum', in the pinned program and in every row, IS THE sha256 OF THE DUMP (.gsa) THAT YtbkfnmgkcgnifaaGreatProg.lean LOADS. Nothing in Lean hashes anything: it is a label: what it is worth is what the hold of that sum in a sandbox is worth. -/
noncomputable def Tryz.pinned : Pinned := { name := "ytbkfnmgkcgnifaagreat", sum := "7e0f5daa1f5760137b62bf918214dbcce495ad536d9cd42c27b650a9b006c748", checked := Tryz.checked }
namespace Rows
def none {H : Type} : Left H := { results := [], args := [] }

/-- 'deltaworkslaw23.ProgressChecks': WHATEVER THE INPUT: true; the input reads as it did. -/
def progressChecksSpec : ChangeSpec := { name := "progressChecks", fn := fun _ => fun
  | [d1, d2, d3] => { results := [.lit (.bool true)], args := [d1, d2, d3] }
  | _ => none }
def progressChecksRow : OpenClaim := { program := "ytbkfnmgkcgnifaagreat", sum := "7e0f5daa1f5760137b62bf918214dbcce495ad536d9cd42c27b650a9b006c748", func := "deltaworks/deltaworkslaw23.ProgressChecks", spec := "progressChecks", unfollowed := true, recurses := true, plainKeys := false, apart := false }
def ProgressChecksSaid : Prop := progressChecksRow.holds Tryz.pinned (OpenSpec.ofChange progressChecksSpec)

/-- ITS FALSE NEIGHBOUR: 'it returns false'. Refute it at one input. -/
def progressChecksWrong : ChangeSpec := { name := "progressChecks", fn := fun _ => fun
  | [d1, d2, d3] => { results := [.lit (.bool false)], args := [d1, d2, d3] }
  | _ => none }
def ProgressChecksWrongFalsely : Prop := progressChecksRow.holds Tryz.pinned (OpenSpec.ofChange progressChecksWrong)

/-- 'deltaworkslaw23.ProgressRuns': WHATEVER THE INPUT: true; the input reads as it did. -/
def progressRunsSpec : ChangeSpec := { name := "progressRuns", fn := fun _ => fun
  | [d1, d2, d3, d4] => { results := [.lit (.bool true)], args := [d1, d2, d3, d4] }
  | _ => none }
def progressRunsRow : OpenClaim := { program := "ytbkfnmgkcgnifaagreat", sum := "7e0f5daa1f5760137b62bf918214dbcce495ad536d9cd42c27b650a9b006c748", func := "deltaworks/deltaworkslaw23.ProgressRuns", spec := "progressRuns", unfollowed := true, recurses := true, plainKeys := false, apart := false }
def ProgressRunsSaid : Prop := progressRunsRow.holds Tryz.pinned (OpenSpec.ofChange progressRunsSpec)

/-- ITS FALSE NEIGHBOUR: 'it returns false'. Refute it at one input. -/
def progressRunsWrong : ChangeSpec := { name := "progressRuns", fn := fun _ => fun
  | [d1, d2, d3, d4] => { results := [.lit (.bool false)], args := [d1, d2, d3, d4] }
  | _ => none }
def ProgressRunsWrongFalsely : Prop := progressRunsRow.holds Tryz.pinned (OpenSpec.ofChange progressRunsWrong)

/-- 'deltaworkslaw23.ProgressTells': WHATEVER THE INPUT: true; the input reads as it did. -/
def progressTellsSpec : ChangeSpec := { name := "progressTells", fn := fun _ => fun
  | [d1, d2, d3, d4] => { results := [.lit (.bool true)], args := [d1, d2, d3, d4] }
  | _ => none }
def progressTellsRow : OpenClaim := { program := "ytbkfnmgkcgnifaagreat", sum := "7e0f5daa1f5760137b62bf918214dbcce495ad536d9cd42c27b650a9b006c748", func := "deltaworks/deltaworkslaw23.ProgressTells", spec := "progressTells", unfollowed := true, recurses := true, plainKeys := false, apart := false }
def ProgressTellsSaid : Prop := progressTellsRow.holds Tryz.pinned (OpenSpec.ofChange progressTellsSpec)

/-- ITS FALSE NEIGHBOUR: 'it returns false'. Refute it at one input. -/
def progressTellsWrong : ChangeSpec := { name := "progressTells", fn := fun _ => fun
  | [d1, d2, d3, d4] => { results := [.lit (.bool false)], args := [d1, d2, d3, d4] }
  | _ => none }
def ProgressTellsWrongFalsely : Prop := progressTellsRow.holds Tryz.pinned (OpenSpec.ofChange progressTellsWrong)

/- THE SECOND FORM. 'bulk': how many values and letters a reading holds, each counted each time it is reached (what is shared counts as often as it is met; a slice's spare places count too). A statement '..UptoSaid' is the law's where the arguments, and the package variables that the reading takes, are together of bulk at most 1048576: NARROWER than '..Said'. Prove '..Said' where nothing that the law and all that it calls make is longer than what came in: it says more and counts as full. Else prove '..UptoSaid'. A law counts once. -/
mutual
def uptoBulk {H : Type} : DataW H → Nat
  | .lit (.string bytes) => bytes.length + 1
  | .lit _ => 1
  | .nil => 1
  | .ptr d => uptoBulk d + 1
  | .slice elems spare => uptoBulkAll elems + uptoBulkAll spare + 1
  | .agg parts => uptoBulkAll parts + 1
  | .iface _ d => uptoBulk d + 1
  | .map entries => uptoBulkEntries entries + 1
  | .held _ => 1
def uptoBulkAll {H : Type} : List (DataW H) → Nat
  | [] => 0
  | d :: r => uptoBulk d + uptoBulkAll r
def uptoBulkEntries {H : Type} : List (Lit × DataW H) → Nat
  | [] => 0
  | x :: r => uptoBulkEntry x + uptoBulkEntries r
def uptoBulkEntry {H : Type} : Lit × DataW H → Nat
  | (.string bytes, d) => bytes.length + uptoBulk d + 1
  | (_, d) => uptoBulk d + 1
 end
def uptoSmall : (H : Type) → List (DataW H) → Bool := fun _ ds => decide (uptoBulkAll ds ≤ 1048576)
def OpenSpec.upto (s : _root_.Go.ChangeSpec) : _root_.Go.OpenSpec := { _root_.Go.OpenSpec.ofChange s with cond := some uptoSmall }

/-- 'deltaworkslaw23.ProgressChecks', WHERE WHAT IT READS IS OF BULK AT MOST 1048576: true; the input reads as it did. -/
def progressChecksUptoRow : OpenClaim := { program := "ytbkfnmgkcgnifaagreat", sum := "7e0f5daa1f5760137b62bf918214dbcce495ad536d9cd42c27b650a9b006c748", func := "deltaworks/deltaworkslaw23.ProgressChecks", spec := "progressChecks", unfollowed := true, recurses := true, plainKeys := false, apart := false, narrowed := true }
def ProgressChecksUptoSaid : Prop := progressChecksUptoRow.holds Tryz.pinned (OpenSpec.upto progressChecksSpec)

/-- 'deltaworkslaw23.ProgressRuns', WHERE WHAT IT READS IS OF BULK AT MOST 1048576: true; the input reads as it did. -/
def progressRunsUptoRow : OpenClaim := { program := "ytbkfnmgkcgnifaagreat", sum := "7e0f5daa1f5760137b62bf918214dbcce495ad536d9cd42c27b650a9b006c748", func := "deltaworks/deltaworkslaw23.ProgressRuns", spec := "progressRuns", unfollowed := true, recurses := true, plainKeys := false, apart := false, narrowed := true }
def ProgressRunsUptoSaid : Prop := progressRunsUptoRow.holds Tryz.pinned (OpenSpec.upto progressRunsSpec)

/-- 'deltaworkslaw23.ProgressTells', WHERE WHAT IT READS IS OF BULK AT MOST 1048576: true; the input reads as it did. -/
def progressTellsUptoRow : OpenClaim := { program := "ytbkfnmgkcgnifaagreat", sum := "7e0f5daa1f5760137b62bf918214dbcce495ad536d9cd42c27b650a9b006c748", func := "deltaworks/deltaworkslaw23.ProgressTells", spec := "progressTells", unfollowed := true, recurses := true, plainKeys := false, apart := false, narrowed := true }
def ProgressTellsUptoSaid : Prop := progressTellsUptoRow.holds Tryz.pinned (OpenSpec.upto progressTellsSpec)

end Rows
end Go.Proofs.YtbkfnmgkcgnifaaGreat
