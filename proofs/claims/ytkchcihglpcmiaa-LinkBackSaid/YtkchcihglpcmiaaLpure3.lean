/- Chapter 14, in plain numbers: bytes that are a frame are its bytes. -/
import Derived.Test.YtkchcihglpcmiaaLpure2
namespace Go.Proofs.Ytkchcihglpcmiaa.Link
open Go.RowKit Go.Proofs.Ytkchcihglpcmiaa.Sk Go.Proofs.Ytkchcihglpcmiaa.Num Go.Proofs.Ytkchcihglpcmiaa.Wire Go.Proofs.Ytkchcihglpcmiaa.PLk

theorem fits_eq (xs : List Int) (h : fitsV xs = true) : xs.take (xs.length - 2) ++ crcB (xs.take (xs.length - 2)) = xs := by
  unfold fitsV at h
  exact of_decide_eq_true h
theorem data_inv : ∀ (F a : Nat) (ys out : List Int), ys.length ≤ F → (ys.length % 18 = 0 ∨ 3 ≤ ys.length % 18) → (dataV F a ys out).2 < 0 →
    ∃ ds, (dataV F a ys out).1 = out ++ ds ∧ ∀ G, ds.length ≤ G → blocksV G ds [] = ys
  | 0, a, ys, out, hF, _, _ => by
    have : ys = [] := List.eq_nil_of_length_eq_zero (by omega)
    subst this
    exact ⟨[], by simp [dataV], fun G _ => blocks_nil G⟩
  | F + 1, a, ys, out, hF, hm, h => by
    by_cases hn : ys = []
    · subst hn
      exact ⟨[], by rw [dataV, if_pos rfl]; simp, fun G _ => blocks_nil G⟩
    · have hp : 1 ≤ ys.length := by cases ys with | nil => exact absurd rfl hn | cons x xs => simp
      rw [dataV, if_neg hn] at h ⊢
      by_cases hf : fitsV (ys.take 18) = true
      · rw [if_pos hf] at h ⊢
        have hd : (ys.drop 18).length = ys.length - 18 := List.length_drop
        obtain ⟨ds, h1, h2⟩ := data_inv F (a + 18) (ys.drop 18) _ (by omega) (by omega) h
        have hc := fits_eq _ hf
        have hcl : (ys.take 18).length = min 18 ys.length := List.length_take
        generalize hcd : (ys.take 18).take ((ys.take 18).length - 2) = d at *
        have hdl : d.length = min 18 ys.length - 2 := by rw [← hcd, List.length_take, hcl]; omega
        refine ⟨d ++ ds, by rw [h1, List.append_assoc], fun G hG => ?_⟩
        have hne : d ++ ds ≠ [] := by
          intro e
          have := congrArg List.length e
          rw [List.length_append, hdl] at this
          simp at this; omega
        obtain ⟨G', rfl⟩ : ∃ G', G = G' + 1 := ⟨G - 1, by rw [List.length_append] at hG; omega⟩
        have hcut : (d ++ ds).take 16 = d ∧ (d ++ ds).drop 16 = ds := by
          by_cases h18 : 18 ≤ ys.length
          · exact ⟨List.take_left' (by omega), List.drop_left' (by omega)⟩
          · have h3 := h2 ds.length (Nat.le_refl _)
            have h4 : (blocksV ds.length ds []).length = 0 := by rw [h3, hd]; omega
            rw [blocks_len _ _ (Nat.le_refl _)] at h4
            have h5 : ds = [] := List.eq_nil_of_length_eq_zero (by omega)
            subst h5
            rw [List.append_nil]
            exact ⟨List.take_of_length_le (by omega), List.drop_of_length_le (by omega)⟩
        rw [blocks_cons G' _ hne, hcut.1, hcut.2, h2 G' (by rw [List.length_append, hdl] at hG; omega), hc, List.take_append_drop]
      · rw [if_neg hf] at h
        simp only at h
        omega
theorem le2_back (x y : Int) (hx : 0 ≤ x ∧ x ≤ 255) (hy : 0 ≤ y ∧ y ≤ 255) : leB 2 (x + 256 * y) = [x, y] := by
  simp only [leB]
  rw [show (x + 256 * y) % 256 = x by omega, show (x + 256 * y) / 256 % 256 = y by omega]
theorem take8 (xs : List Int) (h : 8 ≤ xs.length) : xs.take 8 = [xs.getD 0 0, xs.getD 1 0, xs.getD 2 0, xs.getD 3 0, xs.getD 4 0, xs.getD 5 0, xs.getD 6 0, xs.getD 7 0] := by
  match xs, h with
  | x0 :: x1 :: x2 :: x3 :: x4 :: x5 :: x6 :: x7 :: r, _ => rfl
/-- Bytes that are a frame are its bytes. -/
theorem enc_dec (xs : List Int) (h8 : Bytes8 xs) (f : Fr) (h : decodeV xs = some f) : encB f = xs := by
  obtain ⟨hm, hl, hlen⟩ := dec_some xs h8 f h
  unfold decodeV at h
  by_cases h0 : xs.length < 10
  · rw [if_pos h0] at h; cases h
  rw [if_neg h0] at h
  by_cases h1 : xs.getD 0 0 = 5 ∧ xs.getD 1 0 = 100
  case neg => rw [if_pos h1] at h; cases h
  rw [if_neg (fun hh => hh h1)] at h
  by_cases h3 : fitsV (xs.take 10) = false
  · rw [if_pos h3] at h; cases h
  rw [if_neg h3] at h
  by_cases h4 : xs.getD 2 0 < 5
  · rw [if_pos h4] at h; cases h
  rw [if_neg h4] at h
  by_cases h5 : xs.length = sizeV (xs.getD 2 0 - 5).toNat
  case neg => rw [if_pos h5] at h; cases h
  rw [if_neg (fun hh => hh h5)] at h
  by_cases h6 : (dataF xs).2 ≥ 0
  · rw [if_pos h6] at h; cases h
  rw [if_neg h6] at h
  have e := Option.some.inj h
  have get : ∀ i, i < 10 → 0 ≤ xs.getD i 0 ∧ xs.getD i 0 ≤ 255 := fun i hi => by
    have : xs[i]? = some (xs.getD i 0) := by rw [List.getD_eq_getElem?_getD, List.getElem?_eq_getElem (by omega)]; rfl
    exact h8 _ (List.mem_of_getElem? this)
  have hmod := size_mod f.data.length hl
  have hsz : sizeV f.data.length = sizeV (xs.getD 2 0 - 5).toNat := by rw [← hlen]; exact h5
  have hn : f.data.length = (xs.getD 2 0 - 5).toNat := by unfold sizeV at hsz; omega
  have h3' : fitsV (xs.take 10) = true := by simpa using h3
  have ht := fits_eq _ h3'
  rw [show (xs.take 10).length - 2 = 8 by rw [List.length_take]; omega, List.take_take, show min 8 10 = 8 by rfl] at ht
  have hh : hdrV f = xs.take 8 := by
    rw [take8 xs (by omega)]
    unfold hdrV
    have e1 : f.ctl = xs.getD 3 0 := by rw [← e]
    have e2 : f.dest = xs.getD 4 0 + 256 * xs.getD 5 0 := by rw [← e]
    have e3 : f.src = xs.getD 6 0 + 256 * xs.getD 7 0 := by rw [← e]
    rw [e1, e2, e3, le2_back _ _ (get 4 (by omega)) (get 5 (by omega)), le2_back _ _ (get 6 (by omega)) (get 7 (by omega)), h1.1, h1.2, show 5 + (f.data.length : Int) = xs.getD 2 0 by omega]
    rfl
  have hdl : (xs.drop 10).length = xs.length - 10 := List.length_drop
  unfold dataF at h6
  obtain ⟨ds, d1, d2⟩ := data_inv xs.length 10 (xs.drop 10) [] (by omega) (by rw [hdl, hlen]; exact hmod.2.2) (by omega)
  have hds : f.data = ds := by
    rw [← e]
    show (dataF xs).1 = ds
    unfold dataF
    rw [d1, List.nil_append]
  rw [enc_eq, hh, ht, hds, d2 _ (Nat.le_refl _), List.take_append_drop]
end Go.Proofs.Ytkchcihglpcmiaa.Link
