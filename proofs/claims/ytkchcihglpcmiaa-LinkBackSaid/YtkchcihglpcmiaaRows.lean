/-
  No cell of these rows narrows 'for every input' (looked for: loops, veiled, ifaces, maps, wideKeys, modest, calm, conditions, laid).
  DERIVED. THE GIVEN ROWS OF THIS SEAT. 7 by the template 'for every input the law returns true; each argument reads behind the call as it read before'; 0 by the template 'total and deterministic' (their statements: YtkchcihglpcmiaaTotals.lean).
  GIVEN WITH THE SEED: the statements are not yours to turn. If you find one false, say at which input.
  Laid BY PROGRAM, IN A SANDBOX (cutbox-rows.mjs): the forced cells as the released guide's own fill.sh prints them over the translation 5454783445351e2d… (all of the seat's roots in one cut). By AI agents, Wed Nov 11 2026. No macro, syntax, notation, axiom, sorry.
-/
import Derived.Test.YtkchcihglpcmiaaChecked
import GoSem.Claim
import GoSem.ClaimJoined
import GoSem.ClaimMapViews
import Derived.JoinedTies
import Derived.KernelRfl
namespace Go.Proofs.Ytkchcihglpcmiaa
/- THE CELL 'sum', in the pinned program and in every row, IS THE sha256 OF THE DUMP (.gsa) THAT YtkchcihglpcmiaaProg.lean LOADS. Nothing in Lean hashes anything: it is a label: what it is worth is what the hold of that sum in a sandbox is worth. -/
noncomputable def Try.pinned : Pinned := { name := "ytkchcihglpcmiaa", sum := "5454783445351e2d14964134b4cbdfab7118f13e66884e8c1f1291dd721074a6", checked := Try.checked }
namespace Rows
def none {H : Type} : Left H := { results := [], args := [] }

/-- 'yardlaw14.LinkBack': WHATEVER THE INPUT: true; the input reads as it did. -/
def linkBackSpec : ChangeSpec := { name := "linkBack", fn := fun _ => fun
  | [d1, d2, d3] => { results := [.lit (.bool true)], args := [d1, d2, d3] }
  | _ => none }
def linkBackRow : OpenClaim := { program := "ytkchcihglpcmiaa", sum := "5454783445351e2d14964134b4cbdfab7118f13e66884e8c1f1291dd721074a6", func := "switchyard/yardlaw14.LinkBack", spec := "linkBack", apart := false }
def LinkBackSaid : Prop := linkBackRow.holds Try.pinned (OpenSpec.ofChange linkBackSpec)

/-- ITS FALSE NEIGHBOUR: 'it returns false'. Refute it at one input. -/
def linkBackWrong : ChangeSpec := { name := "linkBack", fn := fun _ => fun
  | [d1, d2, d3] => { results := [.lit (.bool false)], args := [d1, d2, d3] }
  | _ => none }
def LinkBackWrongFalsely : Prop := linkBackRow.holds Try.pinned (OpenSpec.ofChange linkBackWrong)

/-- 'yardlaw14.LinkTrains': WHATEVER THE INPUT: true; the input reads as it did. -/
def linkTrainsSpec : ChangeSpec := { name := "linkTrains", fn := fun _ => fun
  | [d1, d2] => { results := [.lit (.bool true)], args := [d1, d2] }
  | _ => none }
def linkTrainsRow : OpenClaim := { program := "ytkchcihglpcmiaa", sum := "5454783445351e2d14964134b4cbdfab7118f13e66884e8c1f1291dd721074a6", func := "switchyard/yardlaw14.LinkTrains", spec := "linkTrains", apart := false }
def LinkTrainsSaid : Prop := linkTrainsRow.holds Try.pinned (OpenSpec.ofChange linkTrainsSpec)

/-- ITS FALSE NEIGHBOUR: 'it returns false'. Refute it at one input. -/
def linkTrainsWrong : ChangeSpec := { name := "linkTrains", fn := fun _ => fun
  | [d1, d2] => { results := [.lit (.bool false)], args := [d1, d2] }
  | _ => none }
def LinkTrainsWrongFalsely : Prop := linkTrainsRow.holds Try.pinned (OpenSpec.ofChange linkTrainsWrong)

/-- 'yardlaw14.LinkTold': WHATEVER THE INPUT: true; the input reads as it did. -/
def linkToldSpec : ChangeSpec := { name := "linkTold", fn := fun _ => fun
  | [d] => { results := [.lit (.bool true)], args := [d] }
  | _ => none }
def linkToldRow : OpenClaim := { program := "ytkchcihglpcmiaa", sum := "5454783445351e2d14964134b4cbdfab7118f13e66884e8c1f1291dd721074a6", func := "switchyard/yardlaw14.LinkTold", spec := "linkTold", apart := false }
def LinkToldSaid : Prop := linkToldRow.holds Try.pinned (OpenSpec.ofChange linkToldSpec)

/-- ITS FALSE NEIGHBOUR: 'it returns false'. Refute it at one input. -/
def linkToldWrong : ChangeSpec := { name := "linkTold", fn := fun _ => fun
  | [d] => { results := [.lit (.bool false)], args := [d] }
  | _ => none }
def LinkToldWrongFalsely : Prop := linkToldRow.holds Try.pinned (OpenSpec.ofChange linkToldWrong)

/-- 'yardlaw14.LinkNoise': WHATEVER THE INPUT: true; the input reads as it did. -/
def linkNoiseSpec : ChangeSpec := { name := "linkNoise", fn := fun _ => fun
  | [d1, d2] => { results := [.lit (.bool true)], args := [d1, d2] }
  | _ => none }
def linkNoiseRow : OpenClaim := { program := "ytkchcihglpcmiaa", sum := "5454783445351e2d14964134b4cbdfab7118f13e66884e8c1f1291dd721074a6", func := "switchyard/yardlaw14.LinkNoise", spec := "linkNoise", apart := false }
def LinkNoiseSaid : Prop := linkNoiseRow.holds Try.pinned (OpenSpec.ofChange linkNoiseSpec)

/-- ITS FALSE NEIGHBOUR: 'it returns false'. Refute it at one input. -/
def linkNoiseWrong : ChangeSpec := { name := "linkNoise", fn := fun _ => fun
  | [d1, d2] => { results := [.lit (.bool false)], args := [d1, d2] }
  | _ => none }
def LinkNoiseWrongFalsely : Prop := linkNoiseRow.holds Try.pinned (OpenSpec.ofChange linkNoiseWrong)

/-- 'yardlaw14.LinkSizes': WHATEVER THE INPUT: true; the input reads as it did. -/
def linkSizesSpec : ChangeSpec := { name := "linkSizes", fn := fun _ => fun
  | [d] => { results := [.lit (.bool true)], args := [d] }
  | _ => none }
def linkSizesRow : OpenClaim := { program := "ytkchcihglpcmiaa", sum := "5454783445351e2d14964134b4cbdfab7118f13e66884e8c1f1291dd721074a6", func := "switchyard/yardlaw14.LinkSizes", spec := "linkSizes", apart := false }
def LinkSizesSaid : Prop := linkSizesRow.holds Try.pinned (OpenSpec.ofChange linkSizesSpec)

/-- ITS FALSE NEIGHBOUR: 'it returns false'. Refute it at one input. -/
def linkSizesWrong : ChangeSpec := { name := "linkSizes", fn := fun _ => fun
  | [d] => { results := [.lit (.bool false)], args := [d] }
  | _ => none }
def LinkSizesWrongFalsely : Prop := linkSizesRow.holds Try.pinned (OpenSpec.ofChange linkSizesWrong)

/-- 'yardlaw14.LinkOwn': WHATEVER THE INPUT: true; the input reads as it did. -/
def linkOwnSpec : ChangeSpec := { name := "linkOwn", fn := fun _ => fun
  | [d1, d2] => { results := [.lit (.bool true)], args := [d1, d2] }
  | _ => none }
def linkOwnRow : OpenClaim := { program := "ytkchcihglpcmiaa", sum := "5454783445351e2d14964134b4cbdfab7118f13e66884e8c1f1291dd721074a6", func := "switchyard/yardlaw14.LinkOwn", spec := "linkOwn", apart := false }
def LinkOwnSaid : Prop := linkOwnRow.holds Try.pinned (OpenSpec.ofChange linkOwnSpec)

/-- ITS FALSE NEIGHBOUR: 'it returns false'. Refute it at one input. -/
def linkOwnWrong : ChangeSpec := { name := "linkOwn", fn := fun _ => fun
  | [d1, d2] => { results := [.lit (.bool false)], args := [d1, d2] }
  | _ => none }
def LinkOwnWrongFalsely : Prop := linkOwnRow.holds Try.pinned (OpenSpec.ofChange linkOwnWrong)

/-- 'yardlaw14.LinkScans': WHATEVER THE INPUT: true; the input reads as it did. -/
def linkScansSpec : ChangeSpec := { name := "linkScans", fn := fun _ => fun
  | [d] => { results := [.lit (.bool true)], args := [d] }
  | _ => none }
def linkScansRow : OpenClaim := { program := "ytkchcihglpcmiaa", sum := "5454783445351e2d14964134b4cbdfab7118f13e66884e8c1f1291dd721074a6", func := "switchyard/yardlaw14.LinkScans", spec := "linkScans", apart := false }
def LinkScansSaid : Prop := linkScansRow.holds Try.pinned (OpenSpec.ofChange linkScansSpec)

/-- ITS FALSE NEIGHBOUR: 'it returns false'. Refute it at one input. -/
def linkScansWrong : ChangeSpec := { name := "linkScans", fn := fun _ => fun
  | [d] => { results := [.lit (.bool false)], args := [d] }
  | _ => none }
def LinkScansWrongFalsely : Prop := linkScansRow.holds Try.pinned (OpenSpec.ofChange linkScansWrong)

/- THE SECOND FORM. 'bulk': how many values and letters a reading holds, each counted each time it is reached (what is shared counts as often as it is met; a slice's spare places count too). A statement '..UptoSaid' is the law's where the arguments, and the package variables that the reading takes, are together of bulk at most 1048576: NARROWER than '..Said'. Prove '..Said' where nothing that the law and all that it calls make is longer than what came in: it says more and counts as full. Else prove '..UptoSaid'. A law counts once. -/
mutual
def uptoBulk {H : Type} : DataW H → Nat
  | .lit (.string bytes) => bytes.length + 1
  | .lit _ => 1
  | .nil => 1
  | .ptr d => uptoBulk d + 1
  | .slice elems spare => uptoBulkAll elems + uptoBulkAll spare + 1
  | .agg parts => uptoBulkAll parts + 1
  | .iface _ d => uptoBulk d + 1
  | .map entries => uptoBulkEntries entries + 1
  | .held _ => 1
def uptoBulkAll {H : Type} : List (DataW H) → Nat
  | [] => 0
  | d :: r => uptoBulk d + uptoBulkAll r
def uptoBulkEntries {H : Type} : List (Lit × DataW H) → Nat
  | [] => 0
  | x :: r => uptoBulkEntry x + uptoBulkEntries r
def uptoBulkEntry {H : Type} : Lit × DataW H → Nat
  | (.string bytes, d) => bytes.length + uptoBulk d + 1
  | (_, d) => uptoBulk d + 1
 end
def uptoSmall : (H : Type) → List (DataW H) → Bool := fun _ ds => decide (uptoBulkAll ds ≤ 1048576)
def OpenSpec.upto (s : _root_.Go.ChangeSpec) : _root_.Go.OpenSpec := { _root_.Go.OpenSpec.ofChange s with cond := some uptoSmall }

/-- 'yardlaw14.LinkBack', WHERE WHAT IT READS IS OF BULK AT MOST 1048576: true; the input reads as it did. -/
def linkBackUptoRow : OpenClaim := { program := "ytkchcihglpcmiaa", sum := "5454783445351e2d14964134b4cbdfab7118f13e66884e8c1f1291dd721074a6", func := "switchyard/yardlaw14.LinkBack", spec := "linkBack", apart := false, narrowed := true }
def LinkBackUptoSaid : Prop := linkBackUptoRow.holds Try.pinned (OpenSpec.upto linkBackSpec)

/-- 'yardlaw14.LinkTrains', WHERE WHAT IT READS IS OF BULK AT MOST 1048576: true; the input reads as it did. -/
def linkTrainsUptoRow : OpenClaim := { program := "ytkchcihglpcmiaa", sum := "5454783445351e2d14964134b4cbdfab7118f13e66884e8c1f1291dd721074a6", func := "switchyard/yardlaw14.LinkTrains", spec := "linkTrains", apart := false, narrowed := true }
def LinkTrainsUptoSaid : Prop := linkTrainsUptoRow.holds Try.pinned (OpenSpec.upto linkTrainsSpec)

/-- 'yardlaw14.LinkTold', WHERE WHAT IT READS IS OF BULK AT MOST 1048576: true; the input reads as it did. -/
def linkToldUptoRow : OpenClaim := { program := "ytkchcihglpcmiaa", sum := "5454783445351e2d14964134b4cbdfab7118f13e66884e8c1f1291dd721074a6", func := "switchyard/yardlaw14.LinkTold", spec := "linkTold", apart := false, narrowed := true }
def LinkToldUptoSaid : Prop := linkToldUptoRow.holds Try.pinned (OpenSpec.upto linkToldSpec)

/-- 'yardlaw14.LinkNoise', WHERE WHAT IT READS IS OF BULK AT MOST 1048576: true; the input reads as it did. -/
def linkNoiseUptoRow : OpenClaim := { program := "ytkchcihglpcmiaa", sum := "5454783445351e2d14964134b4cbdfab7118f13e66884e8c1f1291dd721074a6", func := "switchyard/yardlaw14.LinkNoise", spec := "linkNoise", apart := false, narrowed := true }
def LinkNoiseUptoSaid : Prop := linkNoiseUptoRow.holds Try.pinned (OpenSpec.upto linkNoiseSpec)

/-- 'yardlaw14.LinkSizes', WHERE WHAT IT READS IS OF BULK AT MOST 1048576: true; the input reads as it did. -/
def linkSizesUptoRow : OpenClaim := { program := "ytkchcihglpcmiaa", sum := "5454783445351e2d14964134b4cbdfab7118f13e66884e8c1f1291dd721074a6", func := "switchyard/yardlaw14.LinkSizes", spec := "linkSizes", apart := false, narrowed := true }
def LinkSizesUptoSaid : Prop := linkSizesUptoRow.holds Try.pinned (OpenSpec.upto linkSizesSpec)

/-- 'yardlaw14.LinkOwn', WHERE WHAT IT READS IS OF BULK AT MOST 1048576: true; the input reads as it did. -/
def linkOwnUptoRow : OpenClaim := { program := "ytkchcihglpcmiaa", sum := "5454783445351e2d14964134b4cbdfab7118f13e66884e8c1f1291dd721074a6", func := "switchyard/yardlaw14.LinkOwn", spec := "linkOwn", apart := false, narrowed := true }
def LinkOwnUptoSaid : Prop := linkOwnUptoRow.holds Try.pinned (OpenSpec.upto linkOwnSpec)

/-- 'yardlaw14.LinkScans', WHERE WHAT IT READS IS OF BULK AT MOST 1048576: true; the input reads as it did. -/
def linkScansUptoRow : OpenClaim := { program := "ytkchcihglpcmiaa", sum := "5454783445351e2d14964134b4cbdfab7118f13e66884e8c1f1291dd721074a6", func := "switchyard/yardlaw14.LinkScans", spec := "linkScans", apart := false, narrowed := true }
def LinkScansUptoSaid : Prop := linkScansUptoRow.holds Try.pinned (OpenSpec.upto linkScansSpec)

end Rows
end Go.Proofs.Ytkchcihglpcmiaa
