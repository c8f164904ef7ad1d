/-
  No cell of these rows narrows 'for every input' (looked for: loops, veiled, ifaces, maps, wideKeys, modest, calm, conditions, laid).
  DERIVED. THE GIVEN ROWS OF THIS SEAT. 9 by the template 'for every input the law returns true; each argument reads behind the call as it read before'; 0 by the template 'total and deterministic' (their statements: YtpchlljelbpanaaTotals.lean).
  GIVEN WITH THE SEED: the statements are not yours to turn. If you find one false, say at which input.
  Laid BY PROGRAM, IN A SANDBOX (cutbox-rows.mjs): the forced cells as the released guide's own fill.sh prints them over the translation 4038397bf153554d… (all of the seat's roots in one cut). By AI agents, Wed Nov 11 2026. No macro, syntax, notation, axiom, sorry.
-/
import Derived.Test.YtpchlljelbpanaaChecked
import GoSem.Claim
import GoSem.ClaimJoined
import GoSem.ClaimMapViews
import Derived.JoinedTies
import Derived.KernelRfl
namespace Go.Proofs.Ytpchlljelbpanaa
/- THE CELL 'sum', in the pinned program and in every row, IS THE sha256 OF THE DUMP (.gsa) THAT YtpchlljelbpanaaProg.lean LOADS. Nothing in Lean hashes anything: it is a label: what it is worth is what the hold of that sum in a sandbox is worth. -/
noncomputable def Try.pinned : Pinned := { name := "ytpchlljelbpanaa", sum := "4038397bf153554db29c3daf35d8d6b04b707e57ef96728b1cde1768423ff5dd", checked := Try.checked }
namespace Rows
def none {H : Type} : Left H := { results := [], args := [] }

/-- 'yardlaw18.VariFlags': WHATEVER THE INPUT: true; the input reads as it did. -/
def variFlagsSpec : ChangeSpec := { name := "variFlags", fn := fun _ => fun
  | [d1, d2, d3, d4, d5] => { results := [.lit (.bool true)], args := [d1, d2, d3, d4, d5] }
  | _ => none }
def variFlagsRow : OpenClaim := { program := "ytpchlljelbpanaa", sum := "4038397bf153554db29c3daf35d8d6b04b707e57ef96728b1cde1768423ff5dd", func := "switchyard/yardlaw18.VariFlags", spec := "variFlags", apart := false }
def VariFlagsSaid : Prop := variFlagsRow.holds Try.pinned (OpenSpec.ofChange variFlagsSpec)

/-- ITS FALSE NEIGHBOUR: 'it returns false'. Refute it at one input. -/
def variFlagsWrong : ChangeSpec := { name := "variFlags", fn := fun _ => fun
  | [d1, d2, d3, d4, d5] => { results := [.lit (.bool false)], args := [d1, d2, d3, d4, d5] }
  | _ => none }
def VariFlagsWrongFalsely : Prop := variFlagsRow.holds Try.pinned (OpenSpec.ofChange variFlagsWrong)

/-- 'yardlaw18.VariValues': WHATEVER THE INPUT: true; the input reads as it did. -/
def variValuesSpec : ChangeSpec := { name := "variValues", fn := fun _ => fun
  | [d1, d2, d3, d4, d5] => { results := [.lit (.bool true)], args := [d1, d2, d3, d4, d5] }
  | _ => none }
def variValuesRow : OpenClaim := { program := "ytpchlljelbpanaa", sum := "4038397bf153554db29c3daf35d8d6b04b707e57ef96728b1cde1768423ff5dd", func := "switchyard/yardlaw18.VariValues", spec := "variValues", apart := false }
def VariValuesSaid : Prop := variValuesRow.holds Try.pinned (OpenSpec.ofChange variValuesSpec)

/-- ITS FALSE NEIGHBOUR: 'it returns false'. Refute it at one input. -/
def variValuesWrong : ChangeSpec := { name := "variValues", fn := fun _ => fun
  | [d1, d2, d3, d4, d5] => { results := [.lit (.bool false)], args := [d1, d2, d3, d4, d5] }
  | _ => none }
def VariValuesWrongFalsely : Prop := variValuesRow.holds Try.pinned (OpenSpec.ofChange variValuesWrong)

/-- 'yardlaw18.VariBack': WHATEVER THE INPUT: true; the input reads as it did. -/
def variBackSpec : ChangeSpec := { name := "variBack", fn := fun _ => fun
  | [d1, d2, d3, d4] => { results := [.lit (.bool true)], args := [d1, d2, d3, d4] }
  | _ => none }
def variBackRow : OpenClaim := { program := "ytpchlljelbpanaa", sum := "4038397bf153554db29c3daf35d8d6b04b707e57ef96728b1cde1768423ff5dd", func := "switchyard/yardlaw18.VariBack", spec := "variBack", apart := false }
def VariBackSaid : Prop := variBackRow.holds Try.pinned (OpenSpec.ofChange variBackSpec)

/-- ITS FALSE NEIGHBOUR: 'it returns false'. Refute it at one input. -/
def variBackWrong : ChangeSpec := { name := "variBack", fn := fun _ => fun
  | [d1, d2, d3, d4] => { results := [.lit (.bool false)], args := [d1, d2, d3, d4] }
  | _ => none }
def VariBackWrongFalsely : Prop := variBackRow.holds Try.pinned (OpenSpec.ofChange variBackWrong)

/-- 'yardlaw18.VariTimes': WHATEVER THE INPUT: true; the input reads as it did. -/
def variTimesSpec : ChangeSpec := { name := "variTimes", fn := fun _ => fun
  | [d1, d2, d3, d4] => { results := [.lit (.bool true)], args := [d1, d2, d3, d4] }
  | _ => none }
def variTimesRow : OpenClaim := { program := "ytpchlljelbpanaa", sum := "4038397bf153554db29c3daf35d8d6b04b707e57ef96728b1cde1768423ff5dd", func := "switchyard/yardlaw18.VariTimes", spec := "variTimes", apart := false }
def VariTimesSaid : Prop := variTimesRow.holds Try.pinned (OpenSpec.ofChange variTimesSpec)

/-- ITS FALSE NEIGHBOUR: 'it returns false'. Refute it at one input. -/
def variTimesWrong : ChangeSpec := { name := "variTimes", fn := fun _ => fun
  | [d1, d2, d3, d4] => { results := [.lit (.bool false)], args := [d1, d2, d3, d4] }
  | _ => none }
def VariTimesWrongFalsely : Prop := variTimesRow.holds Try.pinned (OpenSpec.ofChange variTimesWrong)

/-- 'yardlaw18.VariSigns': WHATEVER THE INPUT: true; the input reads as it did. -/
def variSignsSpec : ChangeSpec := { name := "variSigns", fn := fun _ => fun
  | [d1, d2] => { results := [.lit (.bool true)], args := [d1, d2] }
  | _ => none }
def variSignsRow : OpenClaim := { program := "ytpchlljelbpanaa", sum := "4038397bf153554db29c3daf35d8d6b04b707e57ef96728b1cde1768423ff5dd", func := "switchyard/yardlaw18.VariSigns", spec := "variSigns", apart := false }
def VariSignsSaid : Prop := variSignsRow.holds Try.pinned (OpenSpec.ofChange variSignsSpec)

/-- ITS FALSE NEIGHBOUR: 'it returns false'. Refute it at one input. -/
def variSignsWrong : ChangeSpec := { name := "variSigns", fn := fun _ => fun
  | [d1, d2] => { results := [.lit (.bool false)], args := [d1, d2] }
  | _ => none }
def VariSignsWrongFalsely : Prop := variSignsRow.holds Try.pinned (OpenSpec.ofChange variSignsWrong)

/-- 'yardlaw18.VariTables': WHATEVER THE INPUT: true; the input reads as it did. -/
def variTablesSpec : ChangeSpec := { name := "variTables", fn := fun _ => fun
  | [d1, d2, d3] => { results := [.lit (.bool true)], args := [d1, d2, d3] }
  | _ => none }
def variTablesRow : OpenClaim := { program := "ytpchlljelbpanaa", sum := "4038397bf153554db29c3daf35d8d6b04b707e57ef96728b1cde1768423ff5dd", func := "switchyard/yardlaw18.VariTables", spec := "variTables", apart := false }
def VariTablesSaid : Prop := variTablesRow.holds Try.pinned (OpenSpec.ofChange variTablesSpec)

/-- ITS FALSE NEIGHBOUR: 'it returns false'. Refute it at one input. -/
def variTablesWrong : ChangeSpec := { name := "variTables", fn := fun _ => fun
  | [d1, d2, d3] => { results := [.lit (.bool false)], args := [d1, d2, d3] }
  | _ => none }
def VariTablesWrongFalsely : Prop := variTablesRow.holds Try.pinned (OpenSpec.ofChange variTablesWrong)

/-- 'yardlaw18.VariKinds': WHATEVER THE INPUT: true; the input reads as it did. -/
def variKindsSpec : ChangeSpec := { name := "variKinds", fn := fun _ => fun
  | [d1, d2, d3] => { results := [.lit (.bool true)], args := [d1, d2, d3] }
  | _ => none }
def variKindsRow : OpenClaim := { program := "ytpchlljelbpanaa", sum := "4038397bf153554db29c3daf35d8d6b04b707e57ef96728b1cde1768423ff5dd", func := "switchyard/yardlaw18.VariKinds", spec := "variKinds", apart := false }
def VariKindsSaid : Prop := variKindsRow.holds Try.pinned (OpenSpec.ofChange variKindsSpec)

/-- ITS FALSE NEIGHBOUR: 'it returns false'. Refute it at one input. -/
def variKindsWrong : ChangeSpec := { name := "variKinds", fn := fun _ => fun
  | [d1, d2, d3] => { results := [.lit (.bool false)], args := [d1, d2, d3] }
  | _ => none }
def VariKindsWrongFalsely : Prop := variKindsRow.holds Try.pinned (OpenSpec.ofChange variKindsWrong)

/-- 'yardlaw18.VariControls': WHATEVER THE INPUT: true; the input reads as it did. -/
def variControlsSpec : ChangeSpec := { name := "variControls", fn := fun _ => fun
  | [d1, d2, d3, d4] => { results := [.lit (.bool true)], args := [d1, d2, d3, d4] }
  | _ => none }
def variControlsRow : OpenClaim := { program := "ytpchlljelbpanaa", sum := "4038397bf153554db29c3daf35d8d6b04b707e57ef96728b1cde1768423ff5dd", func := "switchyard/yardlaw18.VariControls", spec := "variControls", apart := false }
def VariControlsSaid : Prop := variControlsRow.holds Try.pinned (OpenSpec.ofChange variControlsSpec)

/-- ITS FALSE NEIGHBOUR: 'it returns false'. Refute it at one input. -/
def variControlsWrong : ChangeSpec := { name := "variControls", fn := fun _ => fun
  | [d1, d2, d3, d4] => { results := [.lit (.bool false)], args := [d1, d2, d3, d4] }
  | _ => none }
def VariControlsWrongFalsely : Prop := variControlsRow.holds Try.pinned (OpenSpec.ofChange variControlsWrong)

/-- 'yardlaw18.VariOnce': WHATEVER THE INPUT: true; the input reads as it did. -/
def variOnceSpec : ChangeSpec := { name := "variOnce", fn := fun _ => fun
  | [d1, d2, d3, d4] => { results := [.lit (.bool true)], args := [d1, d2, d3, d4] }
  | _ => none }
def variOnceRow : OpenClaim := { program := "ytpchlljelbpanaa", sum := "4038397bf153554db29c3daf35d8d6b04b707e57ef96728b1cde1768423ff5dd", func := "switchyard/yardlaw18.VariOnce", spec := "variOnce", apart := false }
def VariOnceSaid : Prop := variOnceRow.holds Try.pinned (OpenSpec.ofChange variOnceSpec)

/-- ITS FALSE NEIGHBOUR: 'it returns false'. Refute it at one input. -/
def variOnceWrong : ChangeSpec := { name := "variOnce", fn := fun _ => fun
  | [d1, d2, d3, d4] => { results := [.lit (.bool false)], args := [d1, d2, d3, d4] }
  | _ => none }
def VariOnceWrongFalsely : Prop := variOnceRow.holds Try.pinned (OpenSpec.ofChange variOnceWrong)

/- THE SECOND FORM. 'bulk': how many values and letters a reading holds, each counted each time it is reached (what is shared counts as often as it is met; a slice's spare places count too). A statement '..UptoSaid' is the law's where the arguments, and the package variables that the reading takes, are together of bulk at most 1048576: NARROWER than '..Said'. Prove '..Said' where nothing that the law and all that it calls make is longer than what came in: it says more and counts as full. Else prove '..UptoSaid'. A law counts once. -/
mutual
def uptoBulk {H : Type} : DataW H → Nat
  | .lit (.string bytes) => bytes.length + 1
  | .lit _ => 1
  | .nil => 1
  | .ptr d => uptoBulk d + 1
  | .slice elems spare => uptoBulkAll elems + uptoBulkAll spare + 1
  | .agg parts => uptoBulkAll parts + 1
  | .iface _ d => uptoBulk d + 1
  | .map entries => uptoBulkEntries entries + 1
  | .held _ => 1
def uptoBulkAll {H : Type} : List (DataW H) → Nat
  | [] => 0
  | d :: r => uptoBulk d + uptoBulkAll r
def uptoBulkEntries {H : Type} : List (Lit × DataW H) → Nat
  | [] => 0
  | x :: r => uptoBulkEntry x + uptoBulkEntries r
def uptoBulkEntry {H : Type} : Lit × DataW H → Nat
  | (.string bytes, d) => bytes.length + uptoBulk d + 1
  | (_, d) => uptoBulk d + 1
 end
def uptoSmall : (H : Type) → List (DataW H) → Bool := fun _ ds => decide (uptoBulkAll ds ≤ 1048576)
def OpenSpec.upto (s : _root_.Go.ChangeSpec) : _root_.Go.OpenSpec := { _root_.Go.OpenSpec.ofChange s with cond := some uptoSmall }

/-- 'yardlaw18.VariFlags', WHERE WHAT IT READS IS OF BULK AT MOST 1048576: true; the input reads as it did. -/
def variFlagsUptoRow : OpenClaim := { program := "ytpchlljelbpanaa", sum := "4038397bf153554db29c3daf35d8d6b04b707e57ef96728b1cde1768423ff5dd", func := "switchyard/yardlaw18.VariFlags", spec := "variFlags", apart := false, narrowed := true }
def VariFlagsUptoSaid : Prop := variFlagsUptoRow.holds Try.pinned (OpenSpec.upto variFlagsSpec)

/-- 'yardlaw18.VariValues', WHERE WHAT IT READS IS OF BULK AT MOST 1048576: true; the input reads as it did. -/
def variValuesUptoRow : OpenClaim := { program := "ytpchlljelbpanaa", sum := "4038397bf153554db29c3daf35d8d6b04b707e57ef96728b1cde1768423ff5dd", func := "switchyard/yardlaw18.VariValues", spec := "variValues", apart := false, narrowed := true }
def VariValuesUptoSaid : Prop := variValuesUptoRow.holds Try.pinned (OpenSpec.upto variValuesSpec)

/-- 'yardlaw18.VariBack', WHERE WHAT IT READS IS OF BULK AT MOST 1048576: true; the input reads as it did. -/
def variBackUptoRow : OpenClaim := { program := "ytpchlljelbpanaa", sum := "4038397bf153554db29c3daf35d8d6b04b707e57ef96728b1cde1768423ff5dd", func := "switchyard/yardlaw18.VariBack", spec := "variBack", apart := false, narrowed := true }
def VariBackUptoSaid : Prop := variBackUptoRow.holds Try.pinned (OpenSpec.upto variBackSpec)

/-- 'yardlaw18.VariTimes', WHERE WHAT IT READS IS OF BULK AT MOST 1048576: true; the input reads as it did. -/
def variTimesUptoRow : OpenClaim := { program := "ytpchlljelbpanaa", sum := "4038397bf153554db29c3daf35d8d6b04b707e57ef96728b1cde1768423ff5dd", func := "switchyard/yardlaw18.VariTimes", spec := "variTimes", apart := false, narrowed := true }
def VariTimesUptoSaid : Prop := variTimesUptoRow.holds Try.pinned (OpenSpec.upto variTimesSpec)

/-- 'yardlaw18.VariSigns', WHERE WHAT IT READS IS OF BULK AT MOST 1048576: true; the input reads as it did. -/
def variSignsUptoRow : OpenClaim := { program := "ytpchlljelbpanaa", sum := "4038397bf153554db29c3daf35d8d6b04b707e57ef96728b1cde1768423ff5dd", func := "switchyard/yardlaw18.VariSigns", spec := "variSigns", apart := false, narrowed := true }
def VariSignsUptoSaid : Prop := variSignsUptoRow.holds Try.pinned (OpenSpec.upto variSignsSpec)

/-- 'yardlaw18.VariTables', WHERE WHAT IT READS IS OF BULK AT MOST 1048576: true; the input reads as it did. -/
def variTablesUptoRow : OpenClaim := { program := "ytpchlljelbpanaa", sum := "4038397bf153554db29c3daf35d8d6b04b707e57ef96728b1cde1768423ff5dd", func := "switchyard/yardlaw18.VariTables", spec := "variTables", apart := false, narrowed := true }
def VariTablesUptoSaid : Prop := variTablesUptoRow.holds Try.pinned (OpenSpec.upto variTablesSpec)

/-- 'yardlaw18.VariKinds', WHERE WHAT IT READS IS OF BULK AT MOST 1048576: true; the input reads as it did. -/
def variKindsUptoRow : OpenClaim := { program := "ytpchlljelbpanaa", sum := "4038397bf153554db29c3daf35d8d6b04b707e57ef96728b1cde1768423ff5dd", func := "switchyard/yardlaw18.VariKinds", spec := "variKinds", apart := false, narrowed := true }
def VariKindsUptoSaid : Prop := variKindsUptoRow.holds Try.pinned (OpenSpec.upto variKindsSpec)

/-- 'yardlaw18.VariControls', WHERE WHAT IT READS IS OF BULK AT MOST 1048576: true; the input reads as it did. -/
def variControlsUptoRow : OpenClaim := { program := "ytpchlljelbpanaa", sum := "4038397bf153554db29c3daf35d8d6b04b707e57ef96728b1cde1768423ff5dd", func := "switchyard/yardlaw18.VariControls", spec := "variControls", apart := false, narrowed := true }
def VariControlsUptoSaid : Prop := variControlsUptoRow.holds Try.pinned (OpenSpec.upto variControlsSpec)

/-- 'yardlaw18.VariOnce', WHERE WHAT IT READS IS OF BULK AT MOST 1048576: true; the input reads as it did. -/
def variOnceUptoRow : OpenClaim := { program := "ytpchlljelbpanaa", sum := "4038397bf153554db29c3daf35d8d6b04b707e57ef96728b1cde1768423ff5dd", func := "switchyard/yardlaw18.VariOnce", spec := "variOnce", apart := false, narrowed := true }
def VariOnceUptoSaid : Prop := variOnceUptoRow.holds Try.pinned (OpenSpec.upto variOnceSpec)

end Rows
end Go.Proofs.Ytpchlljelbpanaa
