/- Chapter 14, in plain numbers: what is told may be; bytes are told, lost or pending. -/
import Derived.Test.YtkchcihglpcmiaaLpure
namespace Go.Proofs.Ytkchcihglpcmiaa.Link
open Go.RowKit Go.Proofs.Ytkchcihglpcmiaa.Sk Go.Proofs.Ytkchcihglpcmiaa.Num Go.Proofs.Ytkchcihglpcmiaa.Wire Go.Proofs.Ytkchcihglpcmiaa.PLk

theorem data_len : ∀ (F a : Nat) (ys out : List Int), ys.length ≤ F → (ys.length % 18 = 0 ∨ 2 ≤ ys.length % 18) → (dataV F a ys out).2 < 0 → (dataV F a ys out).1.length = out.length + (ys.length - 2 * ((ys.length + 17) / 18))
  | 0, a, ys, out, hF, _, _ => by
    have : ys = [] := List.eq_nil_of_length_eq_zero (by omega)
    subst this; rfl
  | F + 1, a, ys, out, hF, hm, h => by
    by_cases hn : ys = []
    · subst hn
      rw [dataV, if_pos rfl]
      simp
    · have hp : 1 ≤ ys.length := by cases ys with | nil => exact absurd rfl hn | cons x xs => simp
      rw [dataV, if_neg hn] at h ⊢
      by_cases hf : fitsV (ys.take 18) = true
      · rw [if_pos hf] at h ⊢
        have hd : (ys.drop 18).length = ys.length - 18 := List.length_drop
        rw [data_len F (a + 18) (ys.drop 18) _ (by omega) (by omega) h, List.length_append, List.length_take, List.length_take, hd]
        omega
      · rw [if_neg hf] at h
        simp only at h
        omega
theorem dec_some (xs : List Int) (h8 : Bytes8 xs) (f : Fr) (h : decodeV xs = some f) : f.may ∧ f.data.length ≤ 250 ∧ xs.length = sizeV f.data.length := by
  unfold decodeV at h
  by_cases h0 : xs.length < 10
  · rw [if_pos h0] at h; cases h
  rw [if_neg h0] at h
  by_cases h1 : xs.getD 0 0 = 5 ∧ xs.getD 1 0 = 100
  case neg => rw [if_pos h1] at h; cases h
  rw [if_neg (fun hh => hh h1)] at h
  by_cases h3 : fitsV (xs.take 10) = false
  · rw [if_pos h3] at h; cases h
  rw [if_neg h3] at h
  by_cases h4 : xs.getD 2 0 < 5
  · rw [if_pos h4] at h; cases h
  rw [if_neg h4] at h
  by_cases h5 : xs.length = sizeV (xs.getD 2 0 - 5).toNat
  case neg => rw [if_pos h5] at h; cases h
  rw [if_neg (fun hh => hh h5)] at h
  by_cases h6 : (dataF xs).2 ≥ 0
  · rw [if_pos h6] at h; cases h
  rw [if_neg h6] at h
  have e := Option.some.inj h
  have get : ∀ i, i < 10 → 0 ≤ xs.getD i 0 ∧ xs.getD i 0 ≤ 255 := fun i hi => by
    have : xs[i]? = some (xs.getD i 0) := by rw [List.getD_eq_getElem?_getD, List.getElem?_eq_getElem (by omega)]; rfl
    exact h8 _ (List.mem_of_getElem? this)
  have g2 := get 2 (by omega)
  generalize hn : (xs.getD 2 0 - 5).toNat = n at *
  have hn2 : n ≤ 250 := by omega
  have hdl : f.data.length = n := by
    rw [← e]
    show (dataF xs).1.length = n
    unfold dataF at h6 ⊢
    have hl : (xs.drop 10).length = n + 2 * ((n + 15) / 16) := by rw [List.length_drop, h5]; unfold sizeV; omega
    rw [data_len xs.length 10 (xs.drop 10) [] (by rw [List.length_drop]; omega) (by rw [hl]; omega) (by omega), hl]
    simp only [List.length_nil]
    omega
  refine ⟨?_, by omega, by rw [hdl]; exact h5⟩
  rw [← e]
  have g3 := get 3 (by omega)
  have g4 := get 4 (by omega)
  have g5 := get 5 (by omega)
  have g6 := get 6 (by omega)
  have g7 := get 7 (by omega)
  exact ⟨g3.1, g3.2, by show 0 ≤ xs.getD 4 0 + 256 * xs.getD 5 0; omega, by show xs.getD 4 0 + 256 * xs.getD 5 0 ≤ 65535; omega, by show 0 ≤ xs.getD 6 0 + 256 * xs.getD 7 0; omega, by show xs.getD 6 0 + 256 * xs.getD 7 0 ≤ 65535; omega⟩
/-- How many bytes frames have. -/
def sumL : List Fr → Nat
  | [] => 0
  | f :: fs => sizeV f.data.length + sumL fs
theorem sumL_snoc : ∀ (fs : List Fr) (f : Fr), sumL (fs ++ [f]) = sumL fs + sizeV f.data.length
  | [], f => by simp [sumL]
  | g :: fs, f => by
    show sizeV g.data.length + sumL (fs ++ [f]) = sizeV g.data.length + sumL fs + sizeV f.data.length
    rw [sumL_snoc fs f]; omega
theorem sumL_take : ∀ (fs : List Fr) (k : Nat), sumL (fs.take k) ≤ sumL fs
  | [], k => by simp [sumL]
  | g :: fs, 0 => by simp [sumL]
  | g :: fs, k + 1 => by
    have := sumL_take fs k
    simp only [List.take_succ_cons, sumL]; omega
theorem feed_told : ∀ (F : Nat) (b : List Int) (lost : Int), Bytes8 b → b.length < F →
    (∀ f, f ∈ (feedV F b lost).1 → f.may ∧ f.data.length ≤ 250) ∧ (feedV F b lost).2.2 + (feedV F b lost).2.1.length + sumL (feedV F b lost).1 = lost + b.length ∧ lost ≤ (feedV F b lost).2.2
  | 0, b, lost, _, hF => by omega
  | F + 1, b, lost, h8, hF => by
    rcases look_kind b with hk | hk | hk
    · rw [feedV, if_pos hk]
      exact ⟨fun f h => by simp at h, by simp [sumL], Int.le_refl _⟩
    · have h1 := look_nil b (by rw [hk]; decide)
      rw [feedV, if_neg (by rw [hk]; decide), if_pos hk]
      obtain ⟨i1, i2, i3⟩ := feed_told F (b.drop 1) (lost + 1) (h8.drop 1) (by rw [List.length_drop]; omega)
      refine ⟨i1, by rw [i2, List.length_drop]; omega, by omega⟩
    · obtain ⟨h1, h2, _, f, hf⟩ := look_whole b h8 hk
      rw [feedV, if_neg (by rw [hk]; decide), if_neg (by rw [hk]; decide)]
      have hfo : frOf (b.take (lookV b).2) = f := by unfold frOf; rw [hf]; rfl
      obtain ⟨m1, m2, m3⟩ := dec_some _ (h8.take _) f hf
      rw [hfo]
      obtain ⟨i1, i2, i3⟩ := feed_told F (b.drop (lookV b).2) lost (h8.drop _) (by rw [List.length_drop]; omega)
      refine ⟨fun g hg => ?_, ?_, i3⟩
      · rcases List.mem_cons.1 hg with rfl | hg
        · exact ⟨m1, m2⟩
        · exact i1 g hg
      · rw [List.length_take] at m3
        rw [List.length_drop] at i2
        simp only [sumL]
        omega
end Go.Proofs.Ytkchcihglpcmiaa.Link
