/- A struct of whole numbers by value: opened and shut, at whatever number of fields. -/
import Derived.Test.YtkchcihglpcmiaaRows
import Derived.OpenShut
import Derived.ChangeOld
import Derived.Below
import Derived.WideShapes
import Derived.ChangeArms
namespace Go.Proofs.Ytkchcihglpcmiaa.Flat
open Go.ChangeShapes Go.WideShapes Go.RowKit
section
variable {H : Type} {enc : TypeId × Value → H} {P : Program} {W : World} {base : Nat} {sp : Nat → Bool} {held : Bool}
/-- Each field one cell, a signed number of 64 bits, in its order. -/
def flatB (P : Program) (fs : Array Field) : Bool :=
  fs.toList.zipIdx.all fun x => x.1.offset == x.2 && P.cellsOf x.1.type == 1 && (match P.underlying x.1.type with | some (.int .i64) => true | _ => false)
theorem flat_of {fs : Array Field} (h : flatB P fs = true) (i : Nat) (f : Field) (hf : fs[i]? = some f) : f.offset = i ∧ P.cellsOf f.type = 1 ∧ P.underlying f.type = some (.int .i64) := by
  unfold flatB at h
  rw [List.all_eq_true] at h
  have := h (f, i) (by rw [List.mem_zipIdx_iff_getElem?]; simpa using hf)
  simp only [Bool.and_eq_true, beq_iff_eq] at this
  obtain ⟨⟨h1, h2⟩, h3⟩ := this
  refine ⟨h1, h2, ?_⟩
  split at h3
  · assumption
  · simp at h3
theorem open_cells {t : TypeId} {fs : Array Field} (ht : P.underlying t = some (.struct fs)) (hB : flatB P fs = true) (hs : P.cellsOf t = fs.size)
    {cs : List Value} {fuel : Nat} {x : DataW H × List MemPlace} (hd : DataW.trod enc P W base sp held fuel t cs = some x) :
    ∃ zs : List Int, zs.length = fs.size ∧ cs = zs.map (.int .i64) ∧ x = (.agg (zs.map fun z => .lit (.int .i64 z)), []) ∧ ∀ z ∈ zs, (Lit.int .i64 z).wf = true := by
  obtain ⟨xs, n, _, hx, hl, hxl, hg⟩ := DataW.trod_struct ht hd
  have key : ∀ i (hi : i < fs.size), ∃ a : Int, cs[i]? = some (.int .i64 a) ∧ xs[i]? = some (.lit (.int .i64 a), []) ∧ (Lit.int .i64 a).wf = true := by
    intro i hi
    obtain ⟨ho, hk, hu⟩ := flat_of hB i fs[i] (by simp [hi])
    have h1 := hg i fs[i] (by simp [hi])
    rw [ho, hk, List.drop_eq_getElem_cons (by omega), List.take_succ_cons, List.take_zero, List.getElem?_eq_getElem (by omega)] at h1
    obtain ⟨a, e1, e2, e3⟩ := DataW.trod_int hu h1
    refine ⟨a, ?_, ?_, e3⟩
    · rw [List.getElem?_eq_getElem (by omega)]
      simpa using e1
    · rw [List.getElem?_eq_getElem (by omega), e2]
  refine ⟨cs.map fun v => match v with | .int _ z => z | _ => 0, by rw [List.length_map, hl, hs], ?_, ?_, ?_⟩
  · apply List.ext_getElem?
    intro i
    by_cases hi : i < fs.size
    · obtain ⟨a, e1, _, _⟩ := key i hi
      simp [e1]
    · rw [List.getElem?_eq_none (by omega), List.getElem?_eq_none (by simp only [List.length_map]; omega)]
  · rw [hx, Prod.mk.injEq]
    refine ⟨?_, ?_⟩
    · congr 1
      apply List.ext_getElem?
      intro i
      by_cases hi : i < fs.size
      · obtain ⟨a, e1, e2, _⟩ := key i hi
        simp [e1, e2]
      · rw [List.getElem?_eq_none (by simp only [List.length_map]; omega), List.getElem?_eq_none (by simp only [List.length_map]; omega)]
    · rw [List.flatMap_eq_nil_iff]
      intro y hy
      obtain ⟨i, hi, rfl⟩ := List.mem_iff_getElem.1 hy
      obtain ⟨a, _, e2, _⟩ := key i (by omega)
      rw [List.getElem?_eq_getElem hi, Option.some.injEq] at e2
      rw [e2]
  · intro z hz
    obtain ⟨v, hv, rfl⟩ := List.mem_map.1 hz
    obtain ⟨i, hi, rfl⟩ := List.mem_iff_getElem.1 hv
    obtain ⟨a, e1, _, e3⟩ := key i (by omega)
    rw [List.getElem?_eq_getElem hi, Option.some.injEq] at e1
    rw [e1]
    exact e3
theorem open_flat {r : Reach} {b0 : Nat} {t : TypeId} {fs : Array Field} (ht : P.underlying t = some (.struct fs)) (hB : flatB P fs = true) (hs : P.cellsOf t = fs.size)
    {v : Value} {d : DataW H} {ps : List MemPlace} (hval : Value.okWide P W r b0 t v) (hd : DataW.Trod enc P W base sp held t v d ps) :
    ∃ zs : List Int, zs.length = fs.size ∧ v = .agg (zs.map (.int .i64)).toArray ∧ d = .agg (zs.map fun z => .lit (.int .i64 z)) ∧ ps = [] ∧ ∀ z ∈ zs, (Lit.int .i64 z).wf = true := by
  obtain ⟨cs, rfl, _⟩ := okWide_struct ht hval
  obtain ⟨fuel, hf⟩ := hd
  obtain ⟨zs, h1, h2, h3, h4⟩ := open_cells ht hB hs hf
  simp only [Prod.mk.injEq] at h3
  refine ⟨zs, h1, ?_, h3.1, h3.2, h4⟩
  rw [← h2]
  rfl
theorem shut_run (zs : List Int) (hw : ∀ z ∈ zs, (Lit.int .i64 z).wf = true) : ∀ (fs : List Field) (k : Nat),
    (∀ i f, fs[i]? = some f → f.offset = k + i ∧ P.cellsOf f.type = 1 ∧ P.underlying f.type = some (.int .i64)) → k + fs.length = zs.length →
    (fs.mapM fun f => DataW.trod enc P W base sp held 1 f.type (((zs.map (Value.int .i64)).drop f.offset).take (P.cellsOf f.type))) = some ((zs.drop k).map fun z => ((.lit (.int .i64 z), []) : DataW H × List MemPlace)) := by
  intro fs
  induction fs with
  | nil =>
    intro k _ hl
    rw [List.drop_of_length_le (by simp only [List.length_nil] at hl; omega)]
    rfl
  | cons f fs ih =>
    intro k hf hl
    obtain ⟨ho, hk, hu⟩ := hf 0 f rfl
    simp only [List.length_cons] at hl
    have h1 : zs.drop k = zs[k]'(by omega) :: zs.drop (k + 1) := List.drop_eq_getElem_cons (by omega)
    have h2 : ((zs.map (Value.int .i64)).drop k).take 1 = [.int .i64 (zs[k]'(by omega))] := by rw [← List.map_drop, h1]; rfl
    have h3 : DataW.trod enc P W base sp held 1 f.type [.int .i64 (zs[k]'(by omega))] = some (.lit (.int .i64 (zs[k]'(by omega))), []) := by simp [DataW.trod, hu, hw _ (List.getElem_mem (by omega : k < zs.length))]
    rw [List.mapM_cons, ih (k + 1) (fun i g hg => by have := hf (i + 1) g (by simpa using hg); rw [this.1]; exact ⟨by omega, this.2⟩) (by omega), ho, hk, Nat.add_zero, h2, h3, h1]
    rfl
theorem shut_cells {t : TypeId} {fs : Array Field} (ht : P.underlying t = some (.struct fs)) (hB : flatB P fs = true) (hs : P.cellsOf t = fs.size) {zs : List Int} (hl : zs.length = fs.size)
    (hw : ∀ z ∈ zs, (Lit.int .i64 z).wf = true) : DataW.trod enc P W base sp held 2 t (zs.map (.int .i64)) = some (.agg (zs.map fun z => .lit (.int .i64 z)), []) := by
  show DataW.trod enc P W base sp held (1 + 1) t _ = _
  rw [DataW.trod_step]
  unfold DataW.trodStep
  simp only [ht]
  rw [if_pos (by rw [List.length_map, hl, hs]), shut_run zs hw fs.toList 0 (fun i f hf => by simpa using flat_of hB i f (by simpa using hf)) (by simp [hl])]
  simp [Function.comp_def]
theorem shut_flat {t : TypeId} {fs : Array Field} (ht : P.underlying t = some (.struct fs)) (hB : flatB P fs = true) (hs : P.cellsOf t = fs.size) {zs : List Int} (hl : zs.length = fs.size)
    (hw : ∀ z ∈ zs, (Lit.int .i64 z).wf = true) : DataW.Trod enc P W base sp held t (.agg (zs.map (.int .i64)).toArray) (.agg (zs.map fun z => .lit (.int .i64 z))) [] :=
  ⟨2, shut_cells ht hB hs hl hw⟩
end
theorem list6 {zs : List Int} (h : zs.length = 6) : ∃ a b c d e f, zs = [a, b, c, d, e, f] := by
  match zs, h with
  | [a, b, c, d, e, f], _ => exact ⟨a, b, c, d, e, f, rfl⟩
theorem list8 {zs : List Int} (h : zs.length = 8) : ∃ a b c d e f g i, zs = [a, b, c, d, e, f, g, i] := by
  match zs, h with
  | [a, b, c, d, e, f, g, i], _ => exact ⟨a, b, c, d, e, f, g, i, rfl⟩
end Go.Proofs.Ytkchcihglpcmiaa.Flat
