/- The contract of head.Parse, whole, over this seat's translation. -/
import Derived.Test.YtgihcfkcghohnaaPar3
namespace Go.Proofs.Ytgihcfkcghohnaa.Head
open Go.RowKit Go.Proofs.Ytgihcfkcghohnaa.Sk Go.Proofs.Ytgihcfkcghohnaa.Num Go.Proofs.Ytgihcfkcghohnaa.Wire

/-- What Parse reads: a header and where it ends, or an error's code. -/
def parseS (b : List Int) (a : Int) : Except Int (Hdr × Int) :=
  if a < 0 ∨ b.length < a + 3 then .error 2
  else
    let g := b.getD a.toNat 0
    let v := b.getD (a.toNat + 1) 0
    let q := b.getD (a.toNat + 2) 0
    let k := (widthV q).1
    if (widthV q).2.2 = false then .error 6
    else if b.length - (a + 3) < (if q = 0 ∨ q = 1 then 2 * k else k) then .error 2
    else
      let bb := b.drop (a + 3).toNat
      let h : Hdr := if q = 0 ∨ q = 1 then ⟨g, v, q, le (bb.take k.toNat), le ((bb.drop k.toNat).take k.toNat), le ((bb.drop k.toNat).take k.toNat) - le (bb.take k.toNat) + 1⟩ else ⟨g, v, q, 0, 0, le (bb.take k.toNat)⟩
      if h.may then .ok (h, a + 3 + (if q = 0 ∨ q = 1 then 2 * k else k)) else .error 1
/-- What is behind a call of Parse. -/
def ParsePost (b : List Int) (a : Int) (w : World) (c : Col) (κ : Nat) (e : Ending) (w' : World) : Prop :=
  match parseS b a with
  | .ok (h, n) => ParseOk h n w c e w'
  | .error k => ParseBad k a w c κ e w'
theorem parse_calls (b : List Int) (a : Int) (V : Value) (w : World) (c : Col) (S : List Nat) (κ : Nat) (hx : Rd u8 w c S V b) (hl : b.length ≤ 140737488355328) (ha : -9223372036854775808 ≤ a ∧ a ≤ 9223372036854775807) :
    Calls Try.prog 11 #[V, .int .i64 a] w (ParsePost b a w c κ) := by
  unfold ParsePost parseS
  by_cases h1 : a < 0 ∨ b.length < a + 3
  · rw [if_pos h1]
    exact parse_few b a V w c S κ hx h1 ha
  rw [if_neg h1]
  have hlen : a.toNat + 3 ≤ b.length := by omega
  have get : ∀ i, i < 3 → b[a.toNat + i]? = some (b.getD (a.toNat + i) 0) := fun i hi => by
    rw [List.getD_eq_getElem?_getD, List.getElem?_eq_getElem (by omega)]; rfl
  have h3 : At3 b a (b.getD a.toNat 0) (b.getD (a.toNat + 1) 0) (b.getD (a.toNat + 2) 0) := ⟨by omega, by omega, get 0 (by omega), get 1 (by omega), get 2 (by omega)⟩
  generalize b.getD a.toNat 0 = g at *
  generalize b.getD (a.toNat + 1) 0 = v at *
  generalize b.getD (a.toNat + 2) 0 = q at *
  rcases widthV_cases q with hq | ⟨hq, hq1, hq2, hq3, hq4, hq5, hq6, hq7, hq8⟩
  · simp only [hq, if_true]
    exact parse_kind b a g v q V w c S κ hx hl h3 hq
  have hw : widthV q = ((widthV q).1, (widthV q).2.1, true) := by rw [← hq]
  simp only [hq, Bool.true_eq_false, if_false]
  generalize (widthV q).1 = k at *
  generalize (widthV q).2.1 = k' at *
  by_cases hr : q = 0 ∨ q = 1
  · have hk1 := hq8 hr
    simp only [if_pos hr]
    by_cases hs : (b.length : Int) - (a + 3) < 2 * k
    · rw [if_pos hs]
      by_cases hs1 : (b.length : Int) - (a + 3) < k
      · exact parse_short1 b a g v q k k' V w c S κ hx hl h3 hw hq2 hq3 _ rfl hr hk1 hs1
      · exact parse_short3 b a g v q k k' V w c S κ hx hl h3 hw hq2 hq3 _ rfl _ rfl hr hk1 (by omega) hs
    · rw [if_neg hs]
      have e0 : ∀ l : List Int, l.drop (0 : Int).toNat = l := fun l => rfl
      have e1 : (0 + k).toNat = k.toNat := by rw [Int.zero_add]
      by_cases hm : Hdr.may ⟨g, v, q, le ((b.drop (a + 3).toNat).take k.toNat), le (((b.drop (a + 3).toNat).drop k.toNat).take k.toNat), le (((b.drop (a + 3).toNat).drop k.toNat).take k.toNat) - le ((b.drop (a + 3).toNat).take k.toNat) + 1⟩
      · rw [if_pos hm]
        have := parse_ok1 b a g v q k k' V w c S κ hx hl h3 hw hq2 hq3 _ rfl (le ((b.drop (a + 3).toNat).take k.toNat)) (by rw [e0]) (le (((b.drop (a + 3).toNat).drop k.toNat).take k.toNat)) (by rw [e1]) hr (by omega) hm
        rw [show a + 3 + (0 + k + k) = a + 3 + 2 * k by omega] at this
        exact this
      · rw [if_neg hm]
        exact parse_range1 b a g v q k k' V w c S κ hx hl h3 hw hq2 hq3 _ rfl (le ((b.drop (a + 3).toNat).take k.toNat)) (by rw [e0]) (le (((b.drop (a + 3).toNat).drop k.toNat).take k.toNat)) (by rw [e1]) hr (by omega) hm
  · simp only [if_neg hr]
    by_cases hs : (b.length : Int) - (a + 3) < k
    · rw [if_pos hs]
      exact parse_short2 b a g v q k k' V w c S κ hx hl h3 hw hq2 hq3 _ rfl hr (by omega) hs
    · rw [if_neg hs]
      have e0 : ∀ l : List Int, l.drop (0 : Int).toNat = l := fun l => rfl
      by_cases hm : Hdr.may ⟨g, v, q, 0, 0, le ((b.drop (a + 3).toNat).take k.toNat)⟩
      · rw [if_pos hm]
        have := parse_ok2 b a g v q k k' V w c S κ hx hl h3 hw hq2 hq3 _ rfl (le ((b.drop (a + 3).toNat).take k.toNat)) (by rw [e0]) hr (by omega) hm
        rw [Int.zero_add] at this
        exact this
      · rw [if_neg hm]
        exact parse_range2 b a g v q k k' V w c S κ hx hl h3 hw hq2 hq3 _ rfl (le ((b.drop (a + 3).toNat).take k.toNat)) (by rw [e0]) hr (by omega) hm
end Go.Proofs.Ytgihcfkcghohnaa.Head
