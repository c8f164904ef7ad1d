/- Chapter 14, in plain numbers: a frame that is bytes is read as itself. -/
import Derived.Test.YtkchcihglpcmiaaLnk8
namespace Go.Proofs.Ytkchcihglpcmiaa.Link
open Go.RowKit Go.Proofs.Ytkchcihglpcmiaa.Sk Go.Proofs.Ytkchcihglpcmiaa.Num Go.Proofs.Ytkchcihglpcmiaa.Wire Go.Proofs.Ytkchcihglpcmiaa.PLk

theorem fits_summed (xs : List Int) : fitsV (xs ++ crcB xs) = true := by
  unfold fitsV
  have hl : (xs ++ crcB xs).length - 2 = xs.length := by rw [List.length_append, crcB_len]; omega
  rw [hl, List.take_left]
  exact decide_eq_true rfl
theorem blocks_out : ∀ (f : Nat) (ds out : List Int), blocksV f ds out = out ++ blocksV f ds []
  | 0, ds, out => by simp [blocksV]
  | f + 1, ds, out => by
    rw [blocksV, blocksV]
    by_cases h : ds = []
    · rw [if_pos h, if_pos h, List.append_nil]
    · rw [if_neg h, if_neg h, blocks_out f (ds.drop 16) (out ++ _), blocks_out f (ds.drop 16) ([] ++ _), List.nil_append, List.append_assoc]
theorem blocks_nil (f : Nat) : blocksV f [] [] = [] := by cases f <;> rfl
theorem blocks_cons (f : Nat) (ds : List Int) (h : ds ≠ []) : blocksV (f + 1) ds [] = (ds.take 16 ++ crcB (ds.take 16)) ++ blocksV f (ds.drop 16) [] := by
  rw [blocksV, if_neg h, List.nil_append, blocks_out]
theorem blocks_len : ∀ (f : Nat) (ds : List Int), ds.length ≤ f → (blocksV f ds []).length = ds.length + 2 * ((ds.length + 15) / 16)
  | 0, ds, h => by
    have : ds = [] := List.eq_nil_of_length_eq_zero (by omega)
    subst this; rfl
  | f + 1, ds, h => by
    by_cases hn : ds = []
    · subst hn; rfl
    · have hp : 1 ≤ ds.length := by cases ds with | nil => exact absurd rfl hn | cons x xs => simp
      rw [blocks_cons f ds hn, List.length_append, List.length_append, crcB_len, blocks_len f (ds.drop 16) (by rw [List.length_drop]; omega), List.length_take, List.length_drop]
      omega
theorem data_blocks : ∀ (f : Nat) (ds : List Int), ds.length ≤ f → ∀ (F a : Nat) (out : List Int), (blocksV f ds []).length ≤ F → dataV F a (blocksV f ds []) out = (out ++ ds, -1)
  | 0, ds, h, F, a, out, hF => by
    have : ds = [] := List.eq_nil_of_length_eq_zero (by omega)
    subst this
    rw [blocks_nil, List.append_nil]
    cases F <;> rfl
  | f + 1, ds, h, F, a, out, hF => by
    by_cases hn : ds = []
    · subst hn
      rw [blocks_nil, List.append_nil]
      cases F <;> rfl
    · have hp : 1 ≤ ds.length := by cases ds with | nil => exact absurd rfl hn | cons x xs => simp
      rw [blocks_cons f ds hn] at hF ⊢
      have hbl : (ds.take 16 ++ crcB (ds.take 16)).length = min 16 ds.length + 2 := by rw [List.length_append, crcB_len, List.length_take]
      obtain ⟨F', rfl⟩ : ∃ F', F = F' + 1 := ⟨F - 1, by rw [List.length_append, hbl] at hF; omega⟩
      have ht : ((ds.take 16 ++ crcB (ds.take 16)) ++ blocksV f (ds.drop 16) []).take 18 = ds.take 16 ++ crcB (ds.take 16) ∧ ((ds.take 16 ++ crcB (ds.take 16)) ++ blocksV f (ds.drop 16) []).drop 18 = blocksV f (ds.drop 16) [] := by
        by_cases h16 : 16 ≤ ds.length
        · have : (ds.take 16 ++ crcB (ds.take 16)).length = 18 := by omega
          exact ⟨List.take_left' this, List.drop_left' this⟩
        · rw [List.drop_of_length_le (show ds.length ≤ 16 by omega), blocks_nil, List.append_nil]
          exact ⟨List.take_of_length_le (by omega), List.drop_of_length_le (by omega)⟩
      have hne : (ds.take 16 ++ crcB (ds.take 16)) ++ blocksV f (ds.drop 16) [] ≠ [] := by
        intro e
        have := congrArg List.length e
        rw [List.length_append, hbl] at this
        simp at this
      rw [dataV, if_neg hne, ht.1, ht.2, if_pos (fits_summed _), hbl, show min 16 ds.length + 2 - 2 = min 16 ds.length by omega]
      have hlt : (ds.take 16).length = min 16 ds.length := List.length_take
      rw [List.take_left' hlt, data_blocks f (ds.drop 16) (by rw [List.length_drop]; omega) F' (a + 18) _ (by rw [List.length_append, hbl] at hF; omega), List.append_assoc, List.take_append_drop]
theorem hdr_len (f : Fr) : (hdrV f).length = 8 := rfl
theorem enc_eq (f : Fr) : encB f = (hdrV f ++ crcB (hdrV f)) ++ blocksV f.data.length f.data [] := by
  unfold encB
  rw [blocks_out]
theorem enc_len (f : Fr) : (encB f).length = sizeV f.data.length := by
  rw [enc_eq, List.length_append, List.length_append, crcB_len, hdr_len, blocks_len _ _ (Nat.le_refl _)]
  unfold sizeV
  omega
theorem enc_take (f : Fr) : (encB f).take 10 = hdrV f ++ crcB (hdrV f) := by
  rw [enc_eq]
  exact List.take_left' rfl
theorem enc_drop (f : Fr) : (encB f).drop 10 = blocksV f.data.length f.data [] := by
  rw [enc_eq]
  exact List.drop_left' rfl
theorem enc_data (f : Fr) : dataF (encB f) = (f.data, -1) := by
  unfold dataF
  rw [enc_drop, data_blocks _ _ (Nat.le_refl _) _ _ _ (by rw [← enc_drop, List.length_drop]; omega), List.nil_append]
theorem enc_get (f : Fr) (i : Nat) (h : i < 8) (rest : List Int) : (encB f ++ rest).getD i 0 = (hdrV f).getD i 0 := by
  rw [enc_eq, List.getD_eq_getElem?_getD, List.append_assoc, List.append_assoc, List.getElem?_append_left (by rw [hdr_len]; exact h), List.getD_eq_getElem?_getD]
theorem le2 (x : Int) (h0 : 0 ≤ x) (h1 : x ≤ 65535) : x % 256 + 256 * (x / 256 % 256) = x := by omega
theorem dec_enc (f : Fr) (hm : f.may) (hl : f.data.length ≤ 250) : decodeV (encB f) = some f := by
  obtain ⟨m1, m2, m3, m4, m5, m6⟩ := hm
  have g := fun i h => enc_get f i h []
  simp only [List.append_nil] at g
  have hs : sizeV f.data.length = (encB f).length := (enc_len f).symm
  unfold decodeV
  rw [enc_len, if_neg (by unfold sizeV; omega), g 0 (by omega), g 1 (by omega), if_neg (fun h => h ⟨rfl, rfl⟩), enc_take, fits_summed, if_neg (by decide), g 2 (by omega)]
  have e2 : (hdrV f).getD 2 0 = 5 + (f.data.length : Int) := rfl
  rw [e2, if_neg (by omega), show (5 + (f.data.length : Int) - 5).toNat = f.data.length by omega, if_neg (fun h => h rfl), enc_data, if_neg (by simp), g 3 (by omega), g 4 (by omega), g 5 (by omega), g 6 (by omega), g 7 (by omega)]
  have e3 : (hdrV f).getD 3 0 = f.ctl := rfl
  have e4 : (hdrV f).getD 4 0 = f.dest % 256 := rfl
  have e5 : (hdrV f).getD 5 0 = f.dest / 256 % 256 := rfl
  have e6 : (hdrV f).getD 6 0 = f.src % 256 := rfl
  have e7 : (hdrV f).getD 7 0 = f.src / 256 % 256 := rfl
  rw [e3, e4, e5, e6, e7, le2 _ m3 m4, le2 _ m5 m6]
theorem look_enc (f : Fr) (hl : f.data.length ≤ 250) (rest : List Int) : lookV (encB f ++ rest) = (2, sizeV f.data.length) := by
  have hlen : (encB f ++ rest).length = sizeV f.data.length + rest.length := by rw [List.length_append, enc_len]
  have h10 : 10 ≤ sizeV f.data.length := by unfold sizeV; omega
  have ht : (encB f ++ rest).take (sizeV f.data.length) = encB f := List.take_left' (enc_len f)
  have ht10 : (encB f ++ rest).take 10 = hdrV f ++ crcB (hdrV f) := by rw [List.take_append_of_le_length (by rw [enc_len]; omega), enc_take]
  unfold lookV
  rw [if_neg (by omega), enc_get f 0 (by omega), enc_get f 1 (by omega), if_neg (fun h => h ⟨rfl, fun _ => rfl⟩), if_neg (by omega), ht10, fits_summed, if_neg (by decide), enc_get f 2 (by omega)]
  have e2 : (hdrV f).getD 2 0 = 5 + (f.data.length : Int) := rfl
  rw [e2, if_neg (by omega), show (5 + (f.data.length : Int) - 5).toNat = f.data.length by omega, if_neg (by omega), ht, enc_data, if_neg (by simp)]
theorem fr_enc (f : Fr) (hm : f.may) (hl : f.data.length ≤ 250) : frOf (encB f) = f := by unfold frOf; rw [dec_enc f hm hl]; rfl
/-- Once there is enough fuel, more tells the same. -/
theorem feed_more : ∀ (F G : Nat) (b : List Int) (lost : Int), Bytes8 b → b.length < F → b.length < G → feedV F b lost = feedV G b lost
  | F + 1, G + 1, b, lost, h8, hF, hG => by
    rw [feedV, feedV]
    rcases look_kind b with hk | hk | hk
    · rw [if_pos hk, if_pos hk]
    · have h1 := look_nil b (by rw [hk]; decide)
      rw [if_neg (by rw [hk]; decide), if_pos hk, if_neg (by rw [hk]; decide), if_pos hk, feed_more F G (b.drop 1) _ (h8.drop 1) (by rw [List.length_drop]; omega) (by rw [List.length_drop]; omega)]
    · obtain ⟨h1, h2, _⟩ := look_whole b h8 hk
      rw [if_neg (by rw [hk]; decide), if_neg (by rw [hk]; decide), if_neg (by rw [hk]; decide), if_neg (by rw [hk]; decide), feed_more F G (b.drop _) _ (h8.drop _) (by rw [List.length_drop]; omega) (by rw [List.length_drop]; omega)]
  | 0, _, b, _, _, hF, _ => by omega
  | _ + 1, 0, b, _, _, _, hG => by omega
theorem feedF_wait (b : List Int) (lost : Int) (h : (lookV b).1 = 0) : feedF b lost = ([], b, lost) := by
  unfold feedF; rw [feedV, if_pos h]
theorem feedF_lose (b : List Int) (lost : Int) (h8 : Bytes8 b) (h : (lookV b).1 = 1) : feedF b lost = feedF (b.drop 1) (lost + 1) := by
  have h1 := look_nil b (by rw [h]; decide)
  unfold feedF
  rw [feedV, if_neg (by rw [h]; decide), if_pos h]
  exact feed_more _ _ _ _ (h8.drop 1) (by rw [List.length_drop]; omega) (by rw [List.length_drop]; omega)
theorem feedF_whole (b : List Int) (lost : Int) (h8 : Bytes8 b) (h : (lookV b).1 = 2) : feedF b lost = (frOf (b.take (lookV b).2) :: (feedF (b.drop (lookV b).2) lost).1, (feedF (b.drop (lookV b).2) lost).2) := by
  obtain ⟨h1, h2, _⟩ := look_whole b h8 h
  have e : feedV b.length (b.drop (lookV b).2) lost = feedF (b.drop (lookV b).2) lost := feed_more _ _ _ _ (h8.drop _) (by rw [List.length_drop]; omega) (by rw [List.length_drop]; omega)
  rw [← e]
  conv => lhs; unfold feedF
  rw [feedV, if_neg (by rw [h]; decide), if_neg (by rw [h]; decide)]
theorem hdr_8 (f : Fr) (hm : f.may) (hl : f.data.length ≤ 250) : Bytes8 (hdrV f) := by
  obtain ⟨m1, m2, _⟩ := hm
  intro x hx
  unfold hdrV at hx
  simp only [List.mem_append, List.mem_cons, List.not_mem_nil, or_false] at hx
  rcases hx with (hx | hx) | hx
  · omega
  · exact leB_range _ _ x hx
  · exact leB_range _ _ x hx
theorem blocks_8 : ∀ (f : Nat) (ds out : List Int), Bytes8 ds → Bytes8 out → Bytes8 (blocksV f ds out)
  | 0, _, out, _, ho => ho
  | f + 1, ds, out, hd, ho => by
    rw [blocksV]
    split
    · exact ho
    · refine blocks_8 f _ _ (hd.drop 16) (fun x hx => ?_)
      rcases List.mem_append.1 hx with h | h
      · exact ho x h
      · rcases List.mem_append.1 h with h | h
        · exact hd.take 16 x h
        · exact crcB_8 _ x h
theorem enc_8 (f : Fr) (hm : f.may) (hl : f.data.length ≤ 250) (hd : Bytes8 f.data) : Bytes8 (encB f) := by
  unfold encB
  refine blocks_8 _ _ _ hd (fun x hx => ?_)
  rcases List.mem_append.1 hx with h | h
  · exact hdr_8 f hm hl x h
  · exact crcB_8 _ x h
/-- Bytes without 5 ahead of a frame are lost, and the frame is told. -/
theorem feed_noise (f : Fr) (hm : f.may) (hl : f.data.length ≤ 250) (hd : Bytes8 f.data) : ∀ (ns : List Int) (lost : Int), Bytes8 ns → (∀ x, x ∈ ns → x ≠ 5) → feedF (ns ++ encB f) lost = ([f], [], lost + ns.length)
  | [], lost, _, _ => by
    have hk := look_enc f hl []
    rw [List.append_nil] at hk
    have h8 := enc_8 f hm hl hd
    rw [List.nil_append, feedF_whole _ _ h8 (by rw [hk]), hk, List.take_of_length_le (by rw [enc_len]; exact Nat.le_refl _), List.drop_of_length_le (by rw [enc_len]; exact Nat.le_refl _), fr_enc f hm hl, feedF_wait [] lost rfl]
    simp
  | x :: ns, lost, h8, hx => by
    have h8' : Bytes8 (x :: ns ++ encB f) := fun y hy => by
      rcases List.mem_append.1 hy with h | h
      · exact h8 y h
      · exact enc_8 f hm hl hd y h
    have hk : (lookV (x :: ns ++ encB f)).1 = 1 := by
      unfold lookV
      rw [if_neg (by simp), if_pos (fun h => hx x (by simp) h.1)]
    rw [feedF_lose _ _ h8' hk]
    show feedF (ns ++ encB f) (lost + 1) = _
    rw [feed_noise f hm hl hd ns (lost + 1) (fun y hy => h8 y (by simp [hy])) (fun y hy => hx y (by simp [hy]))]
    simp only [List.length_cons, Prod.mk.injEq, true_and]
    omega
theorem feed_first (f : Fr) (hm : f.may) (hl : f.data.length ≤ 250) (hd : Bytes8 f.data) : feedF (5 :: encB f) 0 = ([f], [], 1) := by
  have h8' : Bytes8 (5 :: encB f) := fun y hy => by
    rcases List.mem_cons.1 hy with h | h
    · omega
    · exact enc_8 f hm hl hd y h
  have hk : (lookV (5 :: encB f)).1 = 1 := by
    have hp : 1 < (5 :: encB f).length := by rw [List.length_cons, enc_len]; unfold sizeV; omega
    have h1 : (5 :: encB f).getD 1 0 = 5 := by
      have := enc_get f 0 (by omega) []
      rw [List.append_nil] at this
      have e : (5 :: encB f).getD 1 0 = (encB f).getD 0 0 := rfl
      rw [e, this]; rfl
    unfold lookV
    rw [if_neg (by omega), if_pos (fun h => by have := h.2 hp; rw [h1] at this; omega)]
  rw [feedF_lose _ _ h8' hk]
  have := feed_noise f hm hl hd [] (0 + 1) (fun _ h => by simp at h) (fun _ h => by simp at h)
  simpa using this
end Go.Proofs.Ytkchcihglpcmiaa.Link
