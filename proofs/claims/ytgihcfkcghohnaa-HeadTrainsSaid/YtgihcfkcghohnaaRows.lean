/-
  No cell of these rows narrows 'for every input' (looked for: loops, veiled, ifaces, maps, wideKeys, modest, calm, conditions, laid).
  DERIVED. THE GIVEN ROWS OF THIS SEAT. 4 by the template 'for every input the law returns true; each argument reads behind the call as it read before'; 0 by the template 'total and deterministic' (their statements: YtgihcfkcghohnaaTotals.lean).
  GIVEN WITH THE SEED: the statements are not yours to turn. If you find one false, say at which input.
  Laid BY PROGRAM, IN A SANDBOX (cutbox-rows.mjs): the forced cells as the released guide's own fill.sh prints them over the translation 1fcbce7c0751cb3e… (all of the seat's roots in one cut). By AI agents, Wed Nov 11 2026. No macro, syntax, notation, axiom, sorry.
-/
import Derived.Test.YtgihcfkcghohnaaChecked
import GoSem.Claim
import GoSem.ClaimJoined
import GoSem.ClaimMapViews
import Derived.JoinedTies
import Derived.KernelRfl
namespace Go.Proofs.Ytgihcfkcghohnaa
/- THE CELL 'sum', in the pinned program and in every row, IS THE sha256 OF THE DUMP (.gsa) THAT YtgihcfkcghohnaaProg.lean LOADS. Nothing in Lean hashes anything: it is a label: what it is worth is what the hold of that sum in a sandbox is worth. -/
noncomputable def Try.pinned : Pinned := { name := "ytgihcfkcghohnaa", sum := "1fcbce7c0751cb3e552a2425a272574b5f8dcc9e5992cdf4daf36329261c14c1", checked := Try.checked }
namespace Rows
def none {H : Type} : Left H := { results := [], args := [] }

/-- 'yardlaw17.HeadBack': WHATEVER THE INPUT: true; the input reads as it did. -/
def headBackSpec : ChangeSpec := { name := "headBack", fn := fun _ => fun
  | [d1, d2, d3, d4] => { results := [.lit (.bool true)], args := [d1, d2, d3, d4] }
  | _ => none }
def headBackRow : OpenClaim := { program := "ytgihcfkcghohnaa", sum := "1fcbce7c0751cb3e552a2425a272574b5f8dcc9e5992cdf4daf36329261c14c1", func := "switchyard/yardlaw17.HeadBack", spec := "headBack", apart := false }
def HeadBackSaid : Prop := headBackRow.holds Try.pinned (OpenSpec.ofChange headBackSpec)

/-- ITS FALSE NEIGHBOUR: 'it returns false'. Refute it at one input. -/
def headBackWrong : ChangeSpec := { name := "headBack", fn := fun _ => fun
  | [d1, d2, d3, d4] => { results := [.lit (.bool false)], args := [d1, d2, d3, d4] }
  | _ => none }
def HeadBackWrongFalsely : Prop := headBackRow.holds Try.pinned (OpenSpec.ofChange headBackWrong)

/-- 'yardlaw17.HeadCuts': WHATEVER THE INPUT: true; the input reads as it did. -/
def headCutsSpec : ChangeSpec := { name := "headCuts", fn := fun _ => fun
  | [d1, d2] => { results := [.lit (.bool true)], args := [d1, d2] }
  | _ => none }
def headCutsRow : OpenClaim := { program := "ytgihcfkcghohnaa", sum := "1fcbce7c0751cb3e552a2425a272574b5f8dcc9e5992cdf4daf36329261c14c1", func := "switchyard/yardlaw17.HeadCuts", spec := "headCuts", apart := false }
def HeadCutsSaid : Prop := headCutsRow.holds Try.pinned (OpenSpec.ofChange headCutsSpec)

/-- ITS FALSE NEIGHBOUR: 'it returns false'. Refute it at one input. -/
def headCutsWrong : ChangeSpec := { name := "headCuts", fn := fun _ => fun
  | [d1, d2] => { results := [.lit (.bool false)], args := [d1, d2] }
  | _ => none }
def HeadCutsWrongFalsely : Prop := headCutsRow.holds Try.pinned (OpenSpec.ofChange headCutsWrong)

/-- 'yardlaw17.HeadWidths': WHATEVER THE INPUT: true; the input reads as it did. -/
def headWidthsSpec : ChangeSpec := { name := "headWidths", fn := fun _ => fun
  | [d1, d2, d3, d4, d5] => { results := [.lit (.bool true)], args := [d1, d2, d3, d4, d5] }
  | _ => none }
def headWidthsRow : OpenClaim := { program := "ytgihcfkcghohnaa", sum := "1fcbce7c0751cb3e552a2425a272574b5f8dcc9e5992cdf4daf36329261c14c1", func := "switchyard/yardlaw17.HeadWidths", spec := "headWidths", apart := false }
def HeadWidthsSaid : Prop := headWidthsRow.holds Try.pinned (OpenSpec.ofChange headWidthsSpec)

/-- ITS FALSE NEIGHBOUR: 'it returns false'. Refute it at one input. -/
def headWidthsWrong : ChangeSpec := { name := "headWidths", fn := fun _ => fun
  | [d1, d2, d3, d4, d5] => { results := [.lit (.bool false)], args := [d1, d2, d3, d4, d5] }
  | _ => none }
def HeadWidthsWrongFalsely : Prop := headWidthsRow.holds Try.pinned (OpenSpec.ofChange headWidthsWrong)

/-- 'yardlaw17.HeadTrains': WHATEVER THE INPUT: true; the input reads as it did. -/
def headTrainsSpec : ChangeSpec := { name := "headTrains", fn := fun _ => fun
  | [d] => { results := [.lit (.bool true)], args := [d] }
  | _ => none }
def headTrainsRow : OpenClaim := { program := "ytgihcfkcghohnaa", sum := "1fcbce7c0751cb3e552a2425a272574b5f8dcc9e5992cdf4daf36329261c14c1", func := "switchyard/yardlaw17.HeadTrains", spec := "headTrains", apart := false }
def HeadTrainsSaid : Prop := headTrainsRow.holds Try.pinned (OpenSpec.ofChange headTrainsSpec)

/-- ITS FALSE NEIGHBOUR: 'it returns false'. Refute it at one input. -/
def headTrainsWrong : ChangeSpec := { name := "headTrains", fn := fun _ => fun
  | [d] => { results := [.lit (.bool false)], args := [d] }
  | _ => none }
def HeadTrainsWrongFalsely : Prop := headTrainsRow.holds Try.pinned (OpenSpec.ofChange headTrainsWrong)

/- THE SECOND FORM. 'bulk': how many values and letters a reading holds, each counted each time it is reached (what is shared counts as often as it is met; a slice's spare places count too). A statement '..UptoSaid' is the law's where the arguments, and the package variables that the reading takes, are together of bulk at most 1048576: NARROWER than '..Said'. Prove '..Said' where nothing that the law and all that it calls make is longer than what came in: it says more and counts as full. Else prove '..UptoSaid'. A law counts once. -/
mutual
def uptoBulk {H : Type} : DataW H → Nat
  | .lit (.string bytes) => bytes.length + 1
  | .lit _ => 1
  | .nil => 1
  | .ptr d => uptoBulk d + 1
  | .slice elems spare => uptoBulkAll elems + uptoBulkAll spare + 1
  | .agg parts => uptoBulkAll parts + 1
  | .iface _ d => uptoBulk d + 1
  | .map entries => uptoBulkEntries entries + 1
  | .held _ => 1
def uptoBulkAll {H : Type} : List (DataW H) → Nat
  | [] => 0
  | d :: r => uptoBulk d + uptoBulkAll r
def uptoBulkEntries {H : Type} : List (Lit × DataW H) → Nat
  | [] => 0
  | x :: r => uptoBulkEntry x + uptoBulkEntries r
def uptoBulkEntry {H : Type} : Lit × DataW H → Nat
  | (.string bytes, d) => bytes.length + uptoBulk d + 1
  | (_, d) => uptoBulk d + 1
 end
def uptoSmall : (H : Type) → List (DataW H) → Bool := fun _ ds => decide (uptoBulkAll ds ≤ 1048576)
def OpenSpec.upto (s : _root_.Go.ChangeSpec) : _root_.Go.OpenSpec := { _root_.Go.OpenSpec.ofChange s with cond := some uptoSmall }

/-- 'yardlaw17.HeadBack', WHERE WHAT IT READS IS OF BULK AT MOST 1048576: true; the input reads as it did. -/
def headBackUptoRow : OpenClaim := { program := "ytgihcfkcghohnaa", sum := "1fcbce7c0751cb3e552a2425a272574b5f8dcc9e5992cdf4daf36329261c14c1", func := "switchyard/yardlaw17.HeadBack", spec := "headBack", apart := false, narrowed := true }
def HeadBackUptoSaid : Prop := headBackUptoRow.holds Try.pinned (OpenSpec.upto headBackSpec)

/-- 'yardlaw17.HeadCuts', WHERE WHAT IT READS IS OF BULK AT MOST 1048576: true; the input reads as it did. -/
def headCutsUptoRow : OpenClaim := { program := "ytgihcfkcghohnaa", sum := "1fcbce7c0751cb3e552a2425a272574b5f8dcc9e5992cdf4daf36329261c14c1", func := "switchyard/yardlaw17.HeadCuts", spec := "headCuts", apart := false, narrowed := true }
def HeadCutsUptoSaid : Prop := headCutsUptoRow.holds Try.pinned (OpenSpec.upto headCutsSpec)

/-- 'yardlaw17.HeadWidths', WHERE WHAT IT READS IS OF BULK AT MOST 1048576: true; the input reads as it did. -/
def headWidthsUptoRow : OpenClaim := { program := "ytgihcfkcghohnaa", sum := "1fcbce7c0751cb3e552a2425a272574b5f8dcc9e5992cdf4daf36329261c14c1", func := "switchyard/yardlaw17.HeadWidths", spec := "headWidths", apart := false, narrowed := true }
def HeadWidthsUptoSaid : Prop := headWidthsUptoRow.holds Try.pinned (OpenSpec.upto headWidthsSpec)

/-- 'yardlaw17.HeadTrains', WHERE WHAT IT READS IS OF BULK AT MOST 1048576: true; the input reads as it did. -/
def headTrainsUptoRow : OpenClaim := { program := "ytgihcfkcghohnaa", sum := "1fcbce7c0751cb3e552a2425a272574b5f8dcc9e5992cdf4daf36329261c14c1", func := "switchyard/yardlaw17.HeadTrains", spec := "headTrains", apart := false, narrowed := true }
def HeadTrainsUptoSaid : Prop := headTrainsUptoRow.holds Try.pinned (OpenSpec.upto headTrainsSpec)

end Rows
end Go.Proofs.Ytgihcfkcghohnaa
