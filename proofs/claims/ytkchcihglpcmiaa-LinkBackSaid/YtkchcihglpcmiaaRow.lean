/- A slice of bytes that a row opens, as one that is read here. -/
import Derived.Test.YtkchcihglpcmiaaBase
import Derived.Test.YtkchcihglpcmiaaWWords
import Derived.ChangeSlices
import Derived.OpenShut
import Derived.ChangeOld
import Derived.Below
namespace Go.Proofs.Ytkchcihglpcmiaa.Wire
open Go.ChangeShapes Go.WideShapes Go.RowKit Go.Proofs.Ytkchcihglpcmiaa.Sk Go.Proofs.Ytkchcihglpcmiaa.Num

def IsRow (k : IntKind) (w : World) (a : Option Addr) (len cap : Nat) (zs : List Int) : Prop :=
  (a = none ∧ len = 0 ∧ cap = 0 ∧ zs = []) ∨
  ∃ x, a = some x ∧ len ≤ cap ∧ cap ≤ maxLen ∧ zs.length = cap ∧ (∀ i, i < zs.length → w.cell? (x.add i) = some (.int k (zs.getD i 0))) ∧ ∀ n ∈ zs, (Lit.int k n).wf = true
theorem u8wf {x : Int} (h : (Lit.int .u8 x).wf = true) : IntKind.u8.min ≤ x ∧ x ≤ IntKind.u8.max := by
  simp only [Lit.wf, Bool.and_eq_true, decide_eq_true_eq] at h
  exact h
theorem rd_of_row {W : World} {a : Option Addr} {len cap : Nat} {zs : List Int} (h : IsRow .u8 W a len cap zs) : ∃ xs : List Int, xs.length = len ∧ Rd u8 W (fun _ => 0) [0] (.slice a len cap) xs := by
  rcases h with ⟨rfl, rfl, rfl, rfl⟩ | ⟨x, rfl, hl, hm, hz, hc, hw⟩
  · exact ⟨[], rfl, Rd.nil _ _ _ _⟩
  · have hle : (zs.take len).length = len := by rw [List.length_take]; omega
    refine ⟨zs.take len, hle, ⟨some x, cap, by rw [hle], by omega, by rw [hle]; simp [maxLen] at hm; omega, fun hp => ?_⟩⟩
    rw [hle] at hp
    obtain ⟨b, o, spot⟩ := x
    have hspot : spot = none := by simpa [Addr.add] using World.cell?_spot (hc 0 (by omega))
    subst hspot
    refine ⟨b, o, rfl, World.block_lt_of_cell? W _ (by have := hc 0 (by omega); rw [Go.WideShapes.add_plain] at this; exact this), by simp, fun j x hj => ?_⟩
    have hjl : j < len := by have := (List.getElem?_eq_some_iff.1 hj).1; omega
    rw [List.getElem?_take_of_lt hjl] at hj
    have e := hc j (by omega)
    rw [List.getD_eq_getElem?_getD, hj, Go.WideShapes.add_plain] at e
    refine ⟨[.int .u8 x], ⟨rfl, u8wf (hw x (List.mem_of_getElem? hj))⟩, fun i u hu => ?_⟩
    cases i with
    | zero => simp at hu; subst hu; simpa [kint] using e
    | succ i => simp at hu
end Go.Proofs.Ytkchcihglpcmiaa.Wire
