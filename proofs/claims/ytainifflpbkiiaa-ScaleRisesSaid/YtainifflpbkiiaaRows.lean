/-
  No cell of these rows narrows 'for every input' (looked for: loops, veiled, ifaces, maps, wideKeys, modest, calm, conditions, laid).
  DERIVED. THE GIVEN ROWS OF THIS SEAT. 9 by the template 'for every input the law returns true; each argument reads behind the call as it read before'; 0 by the template 'total and deterministic' (their statements: YtainifflpbkiiaaTotals.lean).
  GIVEN WITH THE SEED: the statements are not yours to turn. If you find one false, say at which input.
  Laid BY PROGRAM, IN A SANDBOX (cutbox-rows.mjs): the forced cells as the released guide's own fill.sh prints them over the translation 689073f143712fce… (all of the seat's roots in one cut). By AI agents, Wed Nov 11 2026. No macro, syntax, notation, axiom, sorry.
-/
import Derived.Test.YtainifflpbkiiaaChecked
import GoSem.Claim
import GoSem.ClaimJoined
import GoSem.ClaimMapViews
import Derived.JoinedTies
import Derived.KernelRfl
namespace Go.Proofs.Ytainifflpbkiiaa
/- THE CELL 'sum', in the pinned program and in every row, IS THE sha256 OF THE DUMP (.gsa) THAT YtainifflpbkiiaaProg.lean LOADS. Nothing in Lean hashes anything: it is a label: what it is worth is what the hold of that sum in a sandbox is worth. -/
noncomputable def Try.pinned : Pinned := { name := "ytainifflpbkiiaa", sum := "689073f143712fceaaeca43556e0ac29dd7aefd6d5d0292fc979749f671ccbb0", checked := Try.checked }
namespace Rows
def none {H : Type} : Left H := { results := [], args := [] }

/-- 'yardlaw5.ScaleApplies': WHATEVER THE INPUT: true; the input reads as it did. -/
def scaleAppliesSpec : ChangeSpec := { name := "scaleApplies", fn := fun _ => fun
  | [d1, d2] => { results := [.lit (.bool true)], args := [d1, d2] }
  | _ => none }
def scaleAppliesRow : OpenClaim := { program := "ytainifflpbkiiaa", sum := "689073f143712fceaaeca43556e0ac29dd7aefd6d5d0292fc979749f671ccbb0", func := "switchyard/yardlaw5.ScaleApplies", spec := "scaleApplies", recurses := true, apart := false }
def ScaleAppliesSaid : Prop := scaleAppliesRow.holds Try.pinned (OpenSpec.ofChange scaleAppliesSpec)

/-- ITS FALSE NEIGHBOUR: 'it returns false'. Refute it at one input. -/
def scaleAppliesWrong : ChangeSpec := { name := "scaleApplies", fn := fun _ => fun
  | [d1, d2] => { results := [.lit (.bool false)], args := [d1, d2] }
  | _ => none }
def ScaleAppliesWrongFalsely : Prop := scaleAppliesRow.holds Try.pinned (OpenSpec.ofChange scaleAppliesWrong)

/-- 'yardlaw5.ScaleClips': WHATEVER THE INPUT: true; the input reads as it did. -/
def scaleClipsSpec : ChangeSpec := { name := "scaleClips", fn := fun _ => fun
  | [d1, d2, d3, d4] => { results := [.lit (.bool true)], args := [d1, d2, d3, d4] }
  | _ => none }
def scaleClipsRow : OpenClaim := { program := "ytainifflpbkiiaa", sum := "689073f143712fceaaeca43556e0ac29dd7aefd6d5d0292fc979749f671ccbb0", func := "switchyard/yardlaw5.ScaleClips", spec := "scaleClips", recurses := true, apart := false }
def ScaleClipsSaid : Prop := scaleClipsRow.holds Try.pinned (OpenSpec.ofChange scaleClipsSpec)

/-- ITS FALSE NEIGHBOUR: 'it returns false'. Refute it at one input. -/
def scaleClipsWrong : ChangeSpec := { name := "scaleClips", fn := fun _ => fun
  | [d1, d2, d3, d4] => { results := [.lit (.bool false)], args := [d1, d2, d3, d4] }
  | _ => none }
def ScaleClipsWrongFalsely : Prop := scaleClipsRow.holds Try.pinned (OpenSpec.ofChange scaleClipsWrong)

/-- 'yardlaw5.ScaleRises': WHATEVER THE INPUT: true; the input reads as it did. -/
def scaleRisesSpec : ChangeSpec := { name := "scaleRises", fn := fun _ => fun
  | [d1, d2, d3] => { results := [.lit (.bool true)], args := [d1, d2, d3] }
  | _ => none }
def scaleRisesRow : OpenClaim := { program := "ytainifflpbkiiaa", sum := "689073f143712fceaaeca43556e0ac29dd7aefd6d5d0292fc979749f671ccbb0", func := "switchyard/yardlaw5.ScaleRises", spec := "scaleRises", recurses := true, apart := false }
def ScaleRisesSaid : Prop := scaleRisesRow.holds Try.pinned (OpenSpec.ofChange scaleRisesSpec)

/-- ITS FALSE NEIGHBOUR: 'it returns false'. Refute it at one input. -/
def scaleRisesWrong : ChangeSpec := { name := "scaleRises", fn := fun _ => fun
  | [d1, d2, d3] => { results := [.lit (.bool false)], args := [d1, d2, d3] }
  | _ => none }
def ScaleRisesWrongFalsely : Prop := scaleRisesRow.holds Try.pinned (OpenSpec.ofChange scaleRisesWrong)

/-- 'yardlaw5.ScaleNear': WHATEVER THE INPUT: true; the input reads as it did. -/
def scaleNearSpec : ChangeSpec := { name := "scaleNear", fn := fun _ => fun
  | [d1, d2, d3] => { results := [.lit (.bool true)], args := [d1, d2, d3] }
  | _ => none }
def scaleNearRow : OpenClaim := { program := "ytainifflpbkiiaa", sum := "689073f143712fceaaeca43556e0ac29dd7aefd6d5d0292fc979749f671ccbb0", func := "switchyard/yardlaw5.ScaleNear", spec := "scaleNear", recurses := true, apart := false }
def ScaleNearSaid : Prop := scaleNearRow.holds Try.pinned (OpenSpec.ofChange scaleNearSpec)

/-- ITS FALSE NEIGHBOUR: 'it returns false'. Refute it at one input. -/
def scaleNearWrong : ChangeSpec := { name := "scaleNear", fn := fun _ => fun
  | [d1, d2, d3] => { results := [.lit (.bool false)], args := [d1, d2, d3] }
  | _ => none }
def ScaleNearWrongFalsely : Prop := scaleNearRow.holds Try.pinned (OpenSpec.ofChange scaleNearWrong)

/-- 'yardlaw5.ScaleBands': WHATEVER THE INPUT: true; the input reads as it did. -/
def scaleBandsSpec : ChangeSpec := { name := "scaleBands", fn := fun _ => fun
  | [d1, d2, d3, d4] => { results := [.lit (.bool true)], args := [d1, d2, d3, d4] }
  | _ => none }
def scaleBandsRow : OpenClaim := { program := "ytainifflpbkiiaa", sum := "689073f143712fceaaeca43556e0ac29dd7aefd6d5d0292fc979749f671ccbb0", func := "switchyard/yardlaw5.ScaleBands", spec := "scaleBands", recurses := true, apart := false }
def ScaleBandsSaid : Prop := scaleBandsRow.holds Try.pinned (OpenSpec.ofChange scaleBandsSpec)

/-- ITS FALSE NEIGHBOUR: 'it returns false'. Refute it at one input. -/
def scaleBandsWrong : ChangeSpec := { name := "scaleBands", fn := fun _ => fun
  | [d1, d2, d3, d4] => { results := [.lit (.bool false)], args := [d1, d2, d3, d4] }
  | _ => none }
def ScaleBandsWrongFalsely : Prop := scaleBandsRow.holds Try.pinned (OpenSpec.ofChange scaleBandsWrong)

/-- 'yardlaw5.ScaleSigns': WHATEVER THE INPUT: true; the input reads as it did. -/
def scaleSignsSpec : ChangeSpec := { name := "scaleSigns", fn := fun _ => fun
  | [d] => { results := [.lit (.bool true)], args := [d] }
  | _ => none }
def scaleSignsRow : OpenClaim := { program := "ytainifflpbkiiaa", sum := "689073f143712fceaaeca43556e0ac29dd7aefd6d5d0292fc979749f671ccbb0", func := "switchyard/yardlaw5.ScaleSigns", spec := "scaleSigns", recurses := true, apart := false }
def ScaleSignsSaid : Prop := scaleSignsRow.holds Try.pinned (OpenSpec.ofChange scaleSignsSpec)

/-- ITS FALSE NEIGHBOUR: 'it returns false'. Refute it at one input. -/
def scaleSignsWrong : ChangeSpec := { name := "scaleSigns", fn := fun _ => fun
  | [d] => { results := [.lit (.bool false)], args := [d] }
  | _ => none }
def ScaleSignsWrongFalsely : Prop := scaleSignsRow.holds Try.pinned (OpenSpec.ofChange scaleSignsWrong)

/-- 'yardlaw5.ScaleBounds': WHATEVER THE INPUT: true; the input reads as it did. -/
def scaleBoundsSpec : ChangeSpec := { name := "scaleBounds", fn := fun _ => fun
  | [d1, d2] => { results := [.lit (.bool true)], args := [d1, d2] }
  | _ => none }
def scaleBoundsRow : OpenClaim := { program := "ytainifflpbkiiaa", sum := "689073f143712fceaaeca43556e0ac29dd7aefd6d5d0292fc979749f671ccbb0", func := "switchyard/yardlaw5.ScaleBounds", spec := "scaleBounds", recurses := true, apart := false }
def ScaleBoundsSaid : Prop := scaleBoundsRow.holds Try.pinned (OpenSpec.ofChange scaleBoundsSpec)

/-- ITS FALSE NEIGHBOUR: 'it returns false'. Refute it at one input. -/
def scaleBoundsWrong : ChangeSpec := { name := "scaleBounds", fn := fun _ => fun
  | [d1, d2] => { results := [.lit (.bool false)], args := [d1, d2] }
  | _ => none }
def ScaleBoundsWrongFalsely : Prop := scaleBoundsRow.holds Try.pinned (OpenSpec.ofChange scaleBoundsWrong)

/-- 'yardlaw5.ScaleMoves': WHATEVER THE INPUT: true; the input reads as it did. -/
def scaleMovesSpec : ChangeSpec := { name := "scaleMoves", fn := fun _ => fun
  | [d1, d2, d3, d4] => { results := [.lit (.bool true)], args := [d1, d2, d3, d4] }
  | _ => none }
def scaleMovesRow : OpenClaim := { program := "ytainifflpbkiiaa", sum := "689073f143712fceaaeca43556e0ac29dd7aefd6d5d0292fc979749f671ccbb0", func := "switchyard/yardlaw5.ScaleMoves", spec := "scaleMoves", recurses := true, apart := false }
def ScaleMovesSaid : Prop := scaleMovesRow.holds Try.pinned (OpenSpec.ofChange scaleMovesSpec)

/-- ITS FALSE NEIGHBOUR: 'it returns false'. Refute it at one input. -/
def scaleMovesWrong : ChangeSpec := { name := "scaleMoves", fn := fun _ => fun
  | [d1, d2, d3, d4] => { results := [.lit (.bool false)], args := [d1, d2, d3, d4] }
  | _ => none }
def ScaleMovesWrongFalsely : Prop := scaleMovesRow.holds Try.pinned (OpenSpec.ofChange scaleMovesWrong)

/-- 'yardlaw5.ScaleWhole': WHATEVER THE INPUT: true; the input reads as it did. -/
def scaleWholeSpec : ChangeSpec := { name := "scaleWhole", fn := fun _ => fun
  | [d1, d2, d3] => { results := [.lit (.bool true)], args := [d1, d2, d3] }
  | _ => none }
def scaleWholeRow : OpenClaim := { program := "ytainifflpbkiiaa", sum := "689073f143712fceaaeca43556e0ac29dd7aefd6d5d0292fc979749f671ccbb0", func := "switchyard/yardlaw5.ScaleWhole", spec := "scaleWhole", recurses := true, apart := false }
def ScaleWholeSaid : Prop := scaleWholeRow.holds Try.pinned (OpenSpec.ofChange scaleWholeSpec)

/-- ITS FALSE NEIGHBOUR: 'it returns false'. Refute it at one input. -/
def scaleWholeWrong : ChangeSpec := { name := "scaleWhole", fn := fun _ => fun
  | [d1, d2, d3] => { results := [.lit (.bool false)], args := [d1, d2, d3] }
  | _ => none }
def ScaleWholeWrongFalsely : Prop := scaleWholeRow.holds Try.pinned (OpenSpec.ofChange scaleWholeWrong)

/- THE SECOND FORM. 'bulk': how many values and letters a reading holds, each counted each time it is reached (what is shared counts as often as it is met; a slice's spare places count too). A statement '..UptoSaid' is the law's where the arguments, and the package variables that the reading takes, are together of bulk at most 1048576: NARROWER than '..Said'. Prove '..Said' where nothing that the law and all that it calls make is longer than what came in: it says more and counts as full. Else prove '..UptoSaid'. A law counts once. -/
mutual
def uptoBulk {H : Type} : DataW H → Nat
  | .lit (.string bytes) => bytes.length + 1
  | .lit _ => 1
  | .nil => 1
  | .ptr d => uptoBulk d + 1
  | .slice elems spare => uptoBulkAll elems + uptoBulkAll spare + 1
  | .agg parts => uptoBulkAll parts + 1
  | .iface _ d => uptoBulk d + 1
  | .map entries => uptoBulkEntries entries + 1
  | .held _ => 1
def uptoBulkAll {H : Type} : List (DataW H) → Nat
  | [] => 0
  | d :: r => uptoBulk d + uptoBulkAll r
def uptoBulkEntries {H : Type} : List (Lit × DataW H) → Nat
  | [] => 0
  | x :: r => uptoBulkEntry x + uptoBulkEntries r
def uptoBulkEntry {H : Type} : Lit × DataW H → Nat
  | (.string bytes, d) => bytes.length + uptoBulk d + 1
  | (_, d) => uptoBulk d + 1
 end
def uptoSmall : (H : Type) → List (DataW H) → Bool := fun _ ds => decide (uptoBulkAll ds ≤ 1048576)
def OpenSpec.upto (s : _root_.Go.ChangeSpec) : _root_.Go.OpenSpec := { _root_.Go.OpenSpec.ofChange s with cond := some uptoSmall }

/-- 'yardlaw5.ScaleApplies', WHERE WHAT IT READS IS OF BULK AT MOST 1048576: true; the input reads as it did. -/
def scaleAppliesUptoRow : OpenClaim := { program := "ytainifflpbkiiaa", sum := "689073f143712fceaaeca43556e0ac29dd7aefd6d5d0292fc979749f671ccbb0", func := "switchyard/yardlaw5.ScaleApplies", spec := "scaleApplies", recurses := true, apart := false, narrowed := true }
def ScaleAppliesUptoSaid : Prop := scaleAppliesUptoRow.holds Try.pinned (OpenSpec.upto scaleAppliesSpec)

/-- 'yardlaw5.ScaleClips', WHERE WHAT IT READS IS OF BULK AT MOST 1048576: true; the input reads as it did. -/
def scaleClipsUptoRow : OpenClaim := { program := "ytainifflpbkiiaa", sum := "689073f143712fceaaeca43556e0ac29dd7aefd6d5d0292fc979749f671ccbb0", func := "switchyard/yardlaw5.ScaleClips", spec := "scaleClips", recurses := true, apart := false, narrowed := true }
def ScaleClipsUptoSaid : Prop := scaleClipsUptoRow.holds Try.pinned (OpenSpec.upto scaleClipsSpec)

/-- 'yardlaw5.ScaleRises', WHERE WHAT IT READS IS OF BULK AT MOST 1048576: true; the input reads as it did. -/
def scaleRisesUptoRow : OpenClaim := { program := "ytainifflpbkiiaa", sum := "689073f143712fceaaeca43556e0ac29dd7aefd6d5d0292fc979749f671ccbb0", func := "switchyard/yardlaw5.ScaleRises", spec := "scaleRises", recurses := true, apart := false, narrowed := true }
def ScaleRisesUptoSaid : Prop := scaleRisesUptoRow.holds Try.pinned (OpenSpec.upto scaleRisesSpec)

/-- 'yardlaw5.ScaleNear', WHERE WHAT IT READS IS OF BULK AT MOST 1048576: true; the input reads as it did. -/
def scaleNearUptoRow : OpenClaim := { program := "ytainifflpbkiiaa", sum := "689073f143712fceaaeca43556e0ac29dd7aefd6d5d0292fc979749f671ccbb0", func := "switchyard/yardlaw5.ScaleNear", spec := "scaleNear", recurses := true, apart := false, narrowed := true }
def ScaleNearUptoSaid : Prop := scaleNearUptoRow.holds Try.pinned (OpenSpec.upto scaleNearSpec)

/-- 'yardlaw5.ScaleBands', WHERE WHAT IT READS IS OF BULK AT MOST 1048576: true; the input reads as it did. -/
def scaleBandsUptoRow : OpenClaim := { program := "ytainifflpbkiiaa", sum := "689073f143712fceaaeca43556e0ac29dd7aefd6d5d0292fc979749f671ccbb0", func := "switchyard/yardlaw5.ScaleBands", spec := "scaleBands", recurses := true, apart := false, narrowed := true }
def ScaleBandsUptoSaid : Prop := scaleBandsUptoRow.holds Try.pinned (OpenSpec.upto scaleBandsSpec)

/-- 'yardlaw5.ScaleSigns', WHERE WHAT IT READS IS OF BULK AT MOST 1048576: true; the input reads as it did. -/
def scaleSignsUptoRow : OpenClaim := { program := "ytainifflpbkiiaa", sum := "689073f143712fceaaeca43556e0ac29dd7aefd6d5d0292fc979749f671ccbb0", func := "switchyard/yardlaw5.ScaleSigns", spec := "scaleSigns", recurses := true, apart := false, narrowed := true }
def ScaleSignsUptoSaid : Prop := scaleSignsUptoRow.holds Try.pinned (OpenSpec.upto scaleSignsSpec)

/-- 'yardlaw5.ScaleBounds', WHERE WHAT IT READS IS OF BULK AT MOST 1048576: true; the input reads as it did. -/
def scaleBoundsUptoRow : OpenClaim := { program := "ytainifflpbkiiaa", sum := "689073f143712fceaaeca43556e0ac29dd7aefd6d5d0292fc979749f671ccbb0", func := "switchyard/yardlaw5.ScaleBounds", spec := "scaleBounds", recurses := true, apart := false, narrowed := true }
def ScaleBoundsUptoSaid : Prop := scaleBoundsUptoRow.holds Try.pinned (OpenSpec.upto scaleBoundsSpec)

/-- 'yardlaw5.ScaleMoves', WHERE WHAT IT READS IS OF BULK AT MOST 1048576: true; the input reads as it did. -/
def scaleMovesUptoRow : OpenClaim := { program := "ytainifflpbkiiaa", sum := "689073f143712fceaaeca43556e0ac29dd7aefd6d5d0292fc979749f671ccbb0", func := "switchyard/yardlaw5.ScaleMoves", spec := "scaleMoves", recurses := true, apart := false, narrowed := true }
def ScaleMovesUptoSaid : Prop := scaleMovesUptoRow.holds Try.pinned (OpenSpec.upto scaleMovesSpec)

/-- 'yardlaw5.ScaleWhole', WHERE WHAT IT READS IS OF BULK AT MOST 1048576: true; the input reads as it did. -/
def scaleWholeUptoRow : OpenClaim := { program := "ytainifflpbkiiaa", sum := "689073f143712fceaaeca43556e0ac29dd7aefd6d5d0292fc979749f671ccbb0", func := "switchyard/yardlaw5.ScaleWhole", spec := "scaleWhole", recurses := true, apart := false, narrowed := true }
def ScaleWholeUptoSaid : Prop := scaleWholeUptoRow.holds Try.pinned (OpenSpec.upto scaleWholeSpec)

end Rows
end Go.Proofs.Ytainifflpbkiiaa
