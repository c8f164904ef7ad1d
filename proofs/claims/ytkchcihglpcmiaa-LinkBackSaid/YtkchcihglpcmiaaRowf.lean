/- A frame that a row opens, as one that is read here. -/
import Derived.Test.YtkchcihglpcmiaaRows
import Derived.Test.YtkchcihglpcmiaaRow
import Derived.Test.YtkchcihglpcmiaaBase
import Derived.ChangeSlices
import Derived.OpenShut
import Derived.ChangeOld
import Derived.WideShapes
namespace Go.Proofs.Ytkchcihglpcmiaa.Wire
open Go.ChangeShapes Go.WideShapes Go.RowKit Go.Proofs.Ytkchcihglpcmiaa.Sk Go.Proofs.Ytkchcihglpcmiaa.Num

theorem rd_of_frame {H : Type} {enc : TypeId × Value → H} {P : Program} {W : World} {base b0 : Nat} {held : Bool} {r : Reach} {t t3 e : TypeId} {v : Value} {d : DataW H} {ps : List MemPlace}
    (hs : P.cellsOf t = 4) (hall : ∃ fs : Array Field, P.underlying t = some (.struct fs) ∧ fs.size = 4 ∧ ∀ i, i < 4 → ∃ f, fs[i]? = some f ∧ f.offset = i ∧ P.cellsOf f.type = 1 ∧ (i < 3 → P.underlying f.type = some (.int .i64)) ∧ (i = 3 → f.type = t3))
    (h3 : P.underlying t3 = some (.slice e)) (he : P.underlying e = some (.int .u8)) (hc : P.cellsOf e = 1) (hval : Value.okWide P W r b0 t v) (hd : DataW.Trod enc P W base (fun _ => true) held t v d ps) :
    ∃ (ctl dest src : Int) (ds : List Int) (A : Option Addr) (cap : Nat), v = .agg #[.int .i64 ctl, .int .i64 dest, .int .i64 src, .slice A ds.length cap] ∧ Rd (kint .u8) W (fun _ => 0) [0] (.slice A ds.length cap) ds := by
  obtain ⟨fs, ht, h4, hf⟩ := hall
  obtain ⟨cs, rfl, _⟩ := okWide_struct ht hval
  obtain ⟨fuel, hfu⟩ := hd
  obtain ⟨xs, n, _, hx, hl, hxl, hg⟩ := DataW.trod_struct ht hfu
  have hcl : cs.toList.length = 4 := by rw [← hs]; exact hl
  have one : ∀ i (hi : i < 4), ∃ f, fs[i]? = some f ∧ DataW.trod enc P W base (fun _ => true) held n f.type [cs.toList[i]'(by omega)] = some (xs[i]'(by omega)) ∧ (i < 3 → P.underlying f.type = some (.int .i64)) ∧ (i = 3 → f.type = t3) := by
    intro i hi
    obtain ⟨f, hfi, ho, hk, hu, h3'⟩ := hf i hi
    have h1 := hg i f hfi
    rw [ho, hk] at h1
    have e1 : (((Value.agg cs).cells.toList).drop i).take 1 = [cs.toList[i]'(by omega)] := by
      show (cs.toList.drop i).take 1 = _
      rw [List.drop_eq_getElem_cons (by omega)]
      rfl
    have h1' : DataW.trod enc P W base (fun _ => true) held n f.type ((cs.toList.drop i).take 1) = xs[i]? := h1
    rw [List.drop_eq_getElem_cons (by omega), List.take_succ_cons, List.take_zero, List.getElem?_eq_getElem (by omega)] at h1'
    exact ⟨f, hfi, h1', hu, h3'⟩
  have num : ∀ i (hi : i < 3), ∃ z : Int, cs.toList[i]'(by omega) = .int .i64 z := by
    intro i hi
    obtain ⟨f, _, h1, hu, _⟩ := one i (by omega)
    obtain ⟨a, e1, _, _⟩ := DataW.trod_int (hu hi) h1
    exact ⟨a, by simpa using e1⟩
  obtain ⟨c0, e0⟩ := num 0 (by omega)
  obtain ⟨c1, e1⟩ := num 1 (by omega)
  obtain ⟨c2, e2⟩ := num 2 (by omega)
  obtain ⟨f3, _, h1, _, ht3⟩ := one 3 (by omega)
  rw [ht3 rfl] at h1
  have key : ∃ (ds : List Int) (A : Option Addr) (cap : Nat), cs.toList[3]'(by omega) = .slice A ds.length cap ∧ Rd (kint .u8) W (fun _ => 0) [0] (.slice A ds.length cap) ds := by
    rcases open_ints h3 he hc h1 with ⟨hcs, _⟩ | ⟨x, l, c, zs, hcs, _, hl', hm, hz, _, hcell, hwz⟩
    · simp only [List.cons.injEq, and_true] at hcs
      exact ⟨[], none, 0, hcs, Rd.nil _ _ _ _⟩
    · simp only [List.cons.injEq, and_true] at hcs
      obtain ⟨ds, rfl, hr⟩ := rd_of_row (W := W) (a := some x) (len := l) (cap := c) (zs := zs) (.inr ⟨_, rfl, hl', hm, by simpa using hz, hcell, hwz⟩)
      exact ⟨ds, some x, c, hcs, hr⟩
  obtain ⟨ds, A, cap, e3, hr⟩ := key
  refine ⟨c0, c1, c2, ds, A, cap, ?_, hr⟩
  congr 1
  apply Array.toList_inj.1
  obtain ⟨l⟩ := cs
  match l, hcl, e0, e1, e2, e3 with
  | [a, b, c, d], _, e0, e1, e2, e3 =>
    simp only [List.getElem_cons_zero, List.getElem_cons_succ] at e0 e1 e2 e3
    rw [e0, e1, e2, e3]
end Go.Proofs.Ytkchcihglpcmiaa.Wire
