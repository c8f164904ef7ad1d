/- Chapter 14: Decode, whole. -/
import Derived.Test.YtkchcihglpcmiaaLnk4
namespace Go.Proofs.Ytkchcihglpcmiaa.Link
open Go.RowKit Go.Proofs.Ytkchcihglpcmiaa.Sk Go.Proofs.Ytkchcihglpcmiaa.Num Go.Proofs.Ytkchcihglpcmiaa.Wire Go.Proofs.Ytkchcihglpcmiaa.PLk
def DecP (xs : List Int) (w : World) (c : Col) (e : Ending) (w' : World) : Prop :=
  match decodeV xs with
  | none => DecBad w c e w'
  | some f => DecOk f w c e w'
theorem decode_calls (xs : List Int) (A : Option Addr) (cap : Nat) (w : World) (c : Col) (S : List Nat) (hx : Rd u8 w c S (.slice A xs.length cap) xs) (hl : xs.length ≤ 1000000) (h7 : 7 ∉ S) :
    Calls Try.prog 12 #[.slice A xs.length cap] w (DecP xs w c) := by
  unfold DecP
  by_cases h10 : xs.length < 10
  · have e : decodeV xs = none := by unfold decodeV; rw [if_pos h10]
    rw [e]; exact dec_short xs A cap w c S hx hl h7 h10
  have get : ∀ i, i < 10 → xs[i]? = some (xs.getD i 0) := fun i hi => by
    rw [List.getD_eq_getElem?_getD, List.getElem?_eq_getElem (by omega)]; rfl
  by_cases hf : xs.getD 0 0 = 5 ∧ xs.getD 1 0 = 100
  case neg =>
    have e : decodeV xs = none := by unfold decodeV; rw [if_neg h10, if_pos hf]
    rw [e]; exact dec_form xs A cap w c S hx hl h7 (by omega) _ _ (get 0 (by omega)) (get 1 (by omega)) hf
  have y0 := get 0 (by omega)
  have y1 := get 1 (by omega)
  rw [hf.1] at y0
  rw [hf.2] at y1
  have hnf : ¬ ¬ (xs.getD 0 0 = 5 ∧ xs.getD 1 0 = 100) := fun h => h hf
  by_cases hs : fitsV (xs.take 10) = false
  · have e : decodeV xs = none := by unfold decodeV; rw [if_neg h10, if_neg hnf, if_pos hs]
    rw [e]; exact dec_sum xs A cap w c S hx hl h7 (by omega) y0 y1 _ (get 2 (by omega)) hs
  have hs' : fitsV (xs.take 10) = true := by simpa using hs
  have y2 := get 2 (by omega)
  have r2 := Rd.bytes8 hx _ (List.mem_of_getElem? y2)
  by_cases h2 : xs.getD 2 0 < 5
  · have e : decodeV xs = none := by unfold decodeV; rw [if_neg h10, if_neg hnf, if_neg hs, if_pos h2]
    rw [e]; exact dec_least xs A cap w c S hx hl h7 (by omega) y0 y1 _ y2 hs' h2
  have hn : xs.getD 2 0 = ((xs.getD 2 0 - 5).toNat : Nat) + 5 := by omega
  have hn2 : (xs.getD 2 0 - 5).toNat ≤ 250 := by omega
  by_cases h3 : xs.length = sizeV (xs.getD 2 0 - 5).toNat
  case neg =>
    have e : decodeV xs = none := by unfold decodeV; rw [if_neg h10, if_neg hnf, if_neg hs, if_neg h2, if_pos h3]
    rw [e]
    rcases Nat.lt_or_gt_of_ne h3 with h3 | h3
    · exact dec_few xs A cap w c S hx hl h7 (by omega) y0 y1 _ y2 hs' _ hn (by omega) h3
    · exact dec_many xs A cap w c S hx hl h7 (by omega) y0 y1 _ y2 hs' _ hn (by omega) h3
  by_cases h4 : (dataF xs).2 ≥ 0
  · have e : decodeV xs = none := by unfold decodeV; rw [if_neg h10, if_neg hnf, if_neg hs, if_neg h2, if_neg (fun h => h h3), if_pos h4]
    rw [e]; exact dec_bad xs A cap w c S hx hl h7 (by omega) y0 y1 _ y2 hs' _ hn (by omega) hn2 h3 h4
  · have e : decodeV xs = some ⟨xs.getD 3 0, xs.getD 4 0 + 256 * xs.getD 5 0, xs.getD 6 0 + 256 * xs.getD 7 0, (dataF xs).1⟩ := by unfold decodeV; rw [if_neg h10, if_neg hnf, if_neg hs, if_neg h2, if_neg (fun h => h h3), if_neg h4]
    rw [e]; exact dec_ok xs A cap w c S hx hl h7 (by omega) y0 y1 _ y2 hs' _ hn (by omega) hn2 h3 (by omega) _ (get 3 (by omega)) _ (get 4 (by omega)) _ (get 5 (by omega)) _ (get 6 (by omega)) _ (get 7 (by omega))
end Go.Proofs.Ytkchcihglpcmiaa.Link
