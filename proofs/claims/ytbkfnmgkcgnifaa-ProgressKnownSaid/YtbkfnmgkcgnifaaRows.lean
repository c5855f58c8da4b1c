/-
  No cell of these rows narrows 'for every input' (looked for: loops, veiled, ifaces, maps, wideKeys, modest, calm, conditions, laid).
  DERIVED. THE GIVEN ROWS OF THIS SEAT. 6 by the template 'for every input the law returns true; each argument reads behind the call as it read before'; 0 by the template 'total and deterministic' (their statements: YtbkfnmgkcgnifaaTotals.lean).
  GIVEN WITH THE SEED: the statements are not yours to turn. If you find one false, say at which input.
  Laid BY PROGRAM, IN A SANDBOX (cutbox-rows.mjs): the forced cells as the released guide's own fill.sh prints them over the translation a21ea4ac4cc0cbfe… (all of the seat's roots in one cut). By AI agents, Wed Nov 11 2026. No macro, syntax, notation, axiom, sorry.
-/
import Derived.Test.YtbkfnmgkcgnifaaChecked
import GoSem.Claim
import GoSem.ClaimJoined
import GoSem.ClaimMapViews
import Derived.JoinedTies
import Derived.KernelRfl
namespace Go.Proofs.Ytbkfnmgkcgnifaa
/- THE CELL 'sum', in the pinned program and in every row, IS THE sha256 OF THE DUMP (.gsa) THAT YtbkfnmgkcgnifaaProg.lean LOADS. Nothing in Lean hashes anything: it is a label: what it is worth is what the hold of that sum in a sandbox is worth. -/
noncomputable def Try.pinned : Pinned := { name := "ytbkfnmgkcgnifaa", sum := "a21ea4ac4cc0cbfed0b3265830813795a955dbcab9042600d6ef1b764a5831eb", checked := Try.checked }
namespace Rows
def none {H : Type} : Left H := { results := [], args := [] }

/-- 'deltaworkslaw23.ProgressWays': WHATEVER THE INPUT: true; the input reads as it did. -/
def progressWaysSpec : ChangeSpec := { name := "progressWays", fn := fun _ => fun
  | [d1, d2] => { results := [.lit (.bool true)], args := [d1, d2] }
  | _ => none }
def progressWaysRow : OpenClaim := { program := "ytbkfnmgkcgnifaa", sum := "a21ea4ac4cc0cbfed0b3265830813795a955dbcab9042600d6ef1b764a5831eb", func := "deltaworks/deltaworkslaw23.ProgressWays", spec := "progressWays", unfollowed := true, recurses := true, plainKeys := false, apart := false }
def ProgressWaysSaid : Prop := progressWaysRow.holds Try.pinned (OpenSpec.ofChange progressWaysSpec)

/-- ITS FALSE NEIGHBOUR: 'it returns false'. Refute it at one input. -/
def progressWaysWrong : ChangeSpec := { name := "progressWays", fn := fun _ => fun
  | [d1, d2] => { results := [.lit (.bool false)], args := [d1, d2] }
  | _ => none }
def ProgressWaysWrongFalsely : Prop := progressWaysRow.holds Try.pinned (OpenSpec.ofChange progressWaysWrong)

/-- 'deltaworkslaw23.ProgressKnown': WHATEVER THE INPUT: true; the input reads as it did. -/
def progressKnownSpec : ChangeSpec := { name := "progressKnown", fn := fun _ => fun
  | [] => { results := [.lit (.bool true)], args := [] }
  | _ => none }
def progressKnownRow : OpenClaim := { program := "ytbkfnmgkcgnifaa", sum := "a21ea4ac4cc0cbfed0b3265830813795a955dbcab9042600d6ef1b764a5831eb", func := "deltaworks/deltaworkslaw23.ProgressKnown", spec := "progressKnown", unfollowed := true, recurses := true, plainKeys := false, apart := false }
def ProgressKnownSaid : Prop := progressKnownRow.holds Try.pinned (OpenSpec.ofChange progressKnownSpec)

/-- ITS FALSE NEIGHBOUR: 'it returns false'. Refute it at one input. -/
def progressKnownWrong : ChangeSpec := { name := "progressKnown", fn := fun _ => fun
  | [] => { results := [.lit (.bool false)], args := [] }
  | _ => none }
def ProgressKnownWrongFalsely : Prop := progressKnownRow.holds Try.pinned (OpenSpec.ofChange progressKnownWrong)

/-- 'deltaworkslaw23.ProgressSafe': WHATEVER THE INPUT: true; the input reads as it did. -/
def progressSafeSpec : ChangeSpec := { name := "progressSafe", fn := fun _ => fun
  | [d1, d2, d3] => { results := [.lit (.bool true)], args := [d1, d2, d3] }
  | _ => none }
def progressSafeRow : OpenClaim := { program := "ytbkfnmgkcgnifaa", sum := "a21ea4ac4cc0cbfed0b3265830813795a955dbcab9042600d6ef1b764a5831eb", func := "deltaworks/deltaworkslaw23.ProgressSafe", spec := "progressSafe", unfollowed := true, recurses := true, plainKeys := false, apart := false }
def ProgressSafeSaid : Prop := progressSafeRow.holds Try.pinned (OpenSpec.ofChange progressSafeSpec)

/-- ITS FALSE NEIGHBOUR: 'it returns false'. Refute it at one input. -/
def progressSafeWrong : ChangeSpec := { name := "progressSafe", fn := fun _ => fun
  | [d1, d2, d3] => { results := [.lit (.bool false)], args := [d1, d2, d3] }
  | _ => none }
def ProgressSafeWrongFalsely : Prop := progressSafeRow.holds Try.pinned (OpenSpec.ofChange progressSafeWrong)

/-- 'deltaworkslaw23.ProgressBack': WHATEVER THE INPUT: true; the input reads as it did. -/
def progressBackSpec : ChangeSpec := { name := "progressBack", fn := fun _ => fun
  | [d1, d2, d3] => { results := [.lit (.bool true)], args := [d1, d2, d3] }
  | _ => none }
def progressBackRow : OpenClaim := { program := "ytbkfnmgkcgnifaa", sum := "a21ea4ac4cc0cbfed0b3265830813795a955dbcab9042600d6ef1b764a5831eb", func := "deltaworks/deltaworkslaw23.ProgressBack", spec := "progressBack", unfollowed := true, recurses := true, plainKeys := false, apart := false }
def ProgressBackSaid : Prop := progressBackRow.holds Try.pinned (OpenSpec.ofChange progressBackSpec)

/-- ITS FALSE NEIGHBOUR: 'it returns false'. Refute it at one input. -/
def progressBackWrong : ChangeSpec := { name := "progressBack", fn := fun _ => fun
  | [d1, d2, d3] => { results := [.lit (.bool false)], args := [d1, d2, d3] }
  | _ => none }
def ProgressBackWrongFalsely : Prop := progressBackRow.holds Try.pinned (OpenSpec.ofChange progressBackWrong)

/-- 'deltaworkslaw23.ProgressEnd': WHATEVER THE INPUT: true; the input reads as it did. -/
def progressEndSpec : ChangeSpec := { name := "progressEnd", fn := fun _ => fun
  | [d1, d2] => { results := [.lit (.bool true)], args := [d1, d2] }
  | _ => none }
def progressEndRow : OpenClaim := { program := "ytbkfnmgkcgnifaa", sum := "a21ea4ac4cc0cbfed0b3265830813795a955dbcab9042600d6ef1b764a5831eb", func := "deltaworks/deltaworkslaw23.ProgressEnd", spec := "progressEnd", unfollowed := true, recurses := true, plainKeys := false, apart := false }
def ProgressEndSaid : Prop := progressEndRow.holds Try.pinned (OpenSpec.ofChange progressEndSpec)

/-- ITS FALSE NEIGHBOUR: 'it returns false'. Refute it at one input. -/
def progressEndWrong : ChangeSpec := { name := "progressEnd", fn := fun _ => fun
  | [d1, d2] => { results := [.lit (.bool false)], args := [d1, d2] }
  | _ => none }
def ProgressEndWrongFalsely : Prop := progressEndRow.holds Try.pinned (OpenSpec.ofChange progressEndWrong)

/-- 'deltaworkslaw23.ProgressAlone': WHATEVER THE INPUT: true; the input reads as it did. -/
def progressAloneSpec : ChangeSpec := { name := "progressAlone", fn := fun _ => fun
  | [d1, d2, d3] => { results := [.lit (.bool true)], args := [d1, d2, d3] }
  | _ => none }
def progressAloneRow : OpenClaim := { program := "ytbkfnmgkcgnifaa", sum := "a21ea4ac4cc0cbfed0b3265830813795a955dbcab9042600d6ef1b764a5831eb", func := "deltaworks/deltaworkslaw23.ProgressAlone", spec := "progressAlone", unfollowed := true, recurses := true, plainKeys := false, apart := false }
def ProgressAloneSaid : Prop := progressAloneRow.holds Try.pinned (OpenSpec.ofChange progressAloneSpec)

/-- ITS FALSE NEIGHBOUR: 'it returns false'. Refute it at one input. -/
def progressAloneWrong : ChangeSpec := { name := "progressAlone", fn := fun _ => fun
  | [d1, d2, d3] => { results := [.lit (.bool false)], args := [d1, d2, d3] }
  | _ => none }
def ProgressAloneWrongFalsely : Prop := progressAloneRow.holds Try.pinned (OpenSpec.ofChange progressAloneWrong)

/- THE SECOND FORM. 'bulk': how many values and letters a reading holds, each counted each time it is reached (what is shared counts as often as it is met; a slice's spare places count too). A statement '..UptoSaid' is the law's where the arguments, and the package variables that the reading takes, are together of bulk at most 1048576: NARROWER than '..Said'. Prove '..Said' where nothing that the law and all that it calls make is longer than what came in: it says more and counts as full. Else prove '..UptoSaid'. A law counts once. -/
mutual
def uptoBulk {H : Type} : DataW H → Nat
  | .lit (.string bytes) => bytes.length + 1
  | .lit _ => 1
  | .nil => 1
  | .ptr d => uptoBulk d + 1
  | .slice elems spare => uptoBulkAll elems + uptoBulkAll spare + 1
  | .agg parts => uptoBulkAll parts + 1
  | .iface _ d => uptoBulk d + 1
  | .map entries => uptoBulkEntries entries + 1
  | .held _ => 1
def uptoBulkAll {H : Type} : List (DataW H) → Nat
  | [] => 0
  | d :: r => uptoBulk d + uptoBulkAll r
def uptoBulkEntries {H : Type} : List (Lit × DataW H) → Nat
  | [] => 0
  | x :: r => uptoBulkEntry x + uptoBulkEntries r
def uptoBulkEntry {H : Type} : Lit × DataW H → Nat
  | (.string bytes, d) => bytes.length + uptoBulk d + 1
  | (_, d) => uptoBulk d + 1
 end
def uptoSmall : (H : Type) → List (DataW H) → Bool := fun _ ds => decide (uptoBulkAll ds ≤ 1048576)
def OpenSpec.upto (s : _root_.Go.ChangeSpec) : _root_.Go.OpenSpec := { _root_.Go.OpenSpec.ofChange s with cond := some uptoSmall }

/-- 'deltaworkslaw23.ProgressWays', WHERE WHAT IT READS IS OF BULK AT MOST 1048576: true; the input reads as it did. -/
def progressWaysUptoRow : OpenClaim := { program := "ytbkfnmgkcgnifaa", sum := "a21ea4ac4cc0cbfed0b3265830813795a955dbcab9042600d6ef1b764a5831eb", func := "deltaworks/deltaworkslaw23.ProgressWays", spec := "progressWays", unfollowed := true, recurses := true, plainKeys := false, apart := false, narrowed := true }
def ProgressWaysUptoSaid : Prop := progressWaysUptoRow.holds Try.pinned (OpenSpec.upto progressWaysSpec)

/-- 'deltaworkslaw23.ProgressKnown', WHERE WHAT IT READS IS OF BULK AT MOST 1048576: true; the input reads as it did. -/
def progressKnownUptoRow : OpenClaim := { program := "ytbkfnmgkcgnifaa", sum := "a21ea4ac4cc0cbfed0b3265830813795a955dbcab9042600d6ef1b764a5831eb", func := "deltaworks/deltaworkslaw23.ProgressKnown", spec := "progressKnown", unfollowed := true, recurses := true, plainKeys := false, apart := false, narrowed := true }
def ProgressKnownUptoSaid : Prop := progressKnownUptoRow.holds Try.pinned (OpenSpec.upto progressKnownSpec)

/-- 'deltaworkslaw23.ProgressSafe', WHERE WHAT IT READS IS OF BULK AT MOST 1048576: true; the input reads as it did. -/
def progressSafeUptoRow : OpenClaim := { program := "ytbkfnmgkcgnifaa", sum := "a21ea4ac4cc0cbfed0b3265830813795a955dbcab9042600d6ef1b764a5831eb", func := "deltaworks/deltaworkslaw23.ProgressSafe", spec := "progressSafe", unfollowed := true, recurses := true, plainKeys := false, apart := false, narrowed := true }
def ProgressSafeUptoSaid : Prop := progressSafeUptoRow.holds Try.pinned (OpenSpec.upto progressSafeSpec)

/-- 'deltaworkslaw23.ProgressBack', WHERE WHAT IT READS IS OF BULK AT MOST 1048576: true; the input reads as it did. -/
def progressBackUptoRow : OpenClaim := { program := "ytbkfnmgkcgnifaa", sum := "a21ea4ac4cc0cbfed0b3265830813795a955dbcab9042600d6ef1b764a5831eb", func := "deltaworks/deltaworkslaw23.ProgressBack", spec := "progressBack", unfollowed := true, recurses := true, plainKeys := false, apart := false, narrowed := true }
def ProgressBackUptoSaid : Prop := progressBackUptoRow.holds Try.pinned (OpenSpec.upto progressBackSpec)

/-- 'deltaworkslaw23.ProgressEnd', WHERE WHAT IT READS IS OF BULK AT MOST 1048576: true; the input reads as it did. -/
def progressEndUptoRow : OpenClaim := { program := "ytbkfnmgkcgnifaa", sum := "a21ea4ac4cc0cbfed0b3265830813795a955dbcab9042600d6ef1b764a5831eb", func := "deltaworks/deltaworkslaw23.ProgressEnd", spec := "progressEnd", unfollowed := true, recurses := true, plainKeys := false, apart := false, narrowed := true }
def ProgressEndUptoSaid : Prop := progressEndUptoRow.holds Try.pinned (OpenSpec.upto progressEndSpec)

/-- 'deltaworkslaw23.ProgressAlone', WHERE WHAT IT READS IS OF BULK AT MOST 1048576: true; the input reads as it did. -/
def progressAloneUptoRow : OpenClaim := { program := "ytbkfnmgkcgnifaa", sum := "a21ea4ac4cc0cbfed0b3265830813795a955dbcab9042600d6ef1b764a5831eb", func := "deltaworks/deltaworkslaw23.ProgressAlone", spec := "progressAlone", unfollowed := true, recurses := true, plainKeys := false, apart := false, narrowed := true }
def ProgressAloneUptoSaid : Prop := progressAloneUptoRow.holds Try.pinned (OpenSpec.upto progressAloneSpec)

end Rows
end Go.Proofs.Ytbkfnmgkcgnifaa
