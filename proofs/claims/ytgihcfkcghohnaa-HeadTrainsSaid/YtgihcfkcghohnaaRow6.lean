/- A slice of headers that a row opens, as one that is read here. -/
import Derived.Test.YtgihcfkcghohnaaHtr
import Derived.Test.YtgihcfkcghohnaaFlat
import Derived.Deep.Slices
import Derived.Deep.Fields
import Derived.ChangeSame
import Derived.OpenShut
import Derived.ChangeOld
namespace Go.Proofs.Ytgihcfkcghohnaa.Head
open Go.ChangeShapes Go.WideShapes Go.Deep Go.RowKit Go.Proofs.Ytgihcfkcghohnaa.Sk Go.Proofs.Ytgihcfkcghohnaa.Flat

theorem list_of {α : Type} {p : Nat → α → Prop} : ∀ n, (∀ i, i < n → ∃ x, p i x) → ∃ l : List α, l.length = n ∧ ∀ i x, l[i]? = some x → p i x
  | 0, _ => ⟨[], rfl, fun i x h => by simp at h⟩
  | n + 1, h => by
    obtain ⟨l, hl, hp⟩ := list_of n (fun i hi => h i (by omega))
    obtain ⟨x, hx⟩ := h n (by omega)
    refine ⟨l ++ [x], by simp [hl], fun i y hy => ?_⟩
    rcases Nat.lt_or_ge i l.length with hlt | hge
    · rw [List.getElem?_append_left hlt] at hy; exact hp i y hy
    · rw [List.getElem?_append_right hge] at hy
      have hi : i - l.length = 0 := by
        have := (List.getElem?_eq_some_iff.1 hy).1
        simp at this; omega
      rw [hi] at hy
      simp at hy
      subst hy
      rw [show i = n by omega]; exact hx
theorem rd_of_row6 {H : Type} {enc : TypeId × Value → H} {P : Program} {W : World} {base : Nat} {sp : Nat → Bool} {held : Bool} {t e : TypeId} {fs : Array Field} {fuel : Nat} {x : DataW H × List MemPlace} {a : Option Addr} {len cap : Nat}
    (ht : P.underlying t = some (.slice e)) (he : P.underlying e = some (.struct fs)) (hB : flatB P fs = true) (hs : P.cellsOf e = fs.size) (h6 : fs.size = 6) (h : DataW.trod enc P W base sp held fuel t [.slice a len cap] = some x) :
    ∃ l : List Hdr, l.length = len ∧ Rd khdr W (fun _ => 0) [0] (.slice a len cap) l := by
  rcases open_slice ht h with ⟨hcs, _⟩ | ⟨a', len', cap', m, n, D, Pl, hcs, hb, hl, hm, hmm, hx, hi⟩
  · simp only [List.cons.injEq, Value.slice.injEq, and_true] at hcs
    obtain ⟨rfl, rfl, rfl⟩ := hcs
    exact ⟨[], rfl, Rd.nil _ _ _ _⟩
  · simp only [List.cons.injEq, Value.slice.injEq, and_true] at hcs
    obtain ⟨rfl, rfl, rfl⟩ := hcs
    have hlm : len ≤ m := by rw [hmm]; split <;> omega
    have key : ∀ i, i < len → ∃ h : Hdr, ∀ j u, ([.int .i64 h.g, .int .i64 h.v, .int .i64 h.q, .int .i64 h.f, .int .i64 h.l, .int .i64 h.c] : List Value)[j]? = some u → W.cell? ((a'.add (i * 6)).add j) = some u := by
      intro i hil
      obtain ⟨cs', hc, htr⟩ := hi i (by omega)
      obtain ⟨zs, hzl, hcs', _, _⟩ := open_cells he hB hs htr
      obtain ⟨g, v, q, f, l, c, rfl⟩ := list6 (hzl.trans h6)
      obtain ⟨_, hcl, hat⟩ := World.cells?_some hc
      rw [hs, h6] at hat
      refine ⟨⟨g, v, q, f, l, c⟩, fun j u hj => ?_⟩
      have hj6 : j < 6 := by have := (List.getElem?_eq_some_iff.1 hj).1; simpa using this
      rw [hat j hj6, hcs']
      exact hj
    obtain ⟨l, hll, hp⟩ := list_of len key
    refine ⟨l, hll, ⟨some a', cap, by rw [hll], by omega, by simp [maxLen] at hm; omega, fun hp0 => ?_⟩⟩
    have hspot : a'.spot = none := by
      have h0 := hp 0 l[0] (List.getElem?_eq_getElem hp0) 0 _ rfl
      have := World.cell?_spot h0
      simpa [Addr.add] using this
    obtain ⟨b, o, spot⟩ := a'
    simp only at hspot
    subst hspot
    refine ⟨b, o, rfl, ?_, by simp, fun j h hj => ⟨_, rfl, fun i u hu => ?_⟩⟩
    · have h0 := hp 0 l[0] (List.getElem?_eq_getElem hp0) 0 _ rfl
      have := World.block_lt_of_cell? W _ h0
      simpa [Addr.add] using this
    · have := hp j h hj i u hu
      rw [Go.WideShapes.add_plain, Go.WideShapes.add_plain] at this
      exact this
end Go.Proofs.Ytgihcfkcghohnaa.Head
namespace Go.Proofs.Ytgihcfkcghohnaa.Head
open Go.RowKit Go.Proofs.Ytgihcfkcghohnaa.Sk
theorem trains_walk (l : List Hdr) (A : Option Addr) (cap : Nat) (w : World) (hx : Rd khdr w (fun _ => 0) [0] (.slice A l.length cap) l) : Calls Try.prog 6 #[.slice A l.length cap] w (GoodB w) := by
  by_cases hl : l.length ≤ 300
  · exact trains_main l A cap w hl hx
  · exact trains_long l A cap w (by omega)
end Go.Proofs.Ytgihcfkcghohnaa.Head
