/- Chapter 14: what is fed. -/
import Derived.Test.YtkchcihglpcmiaaLnk7
namespace Go.Proofs.Ytkchcihglpcmiaa.Link
open Go.RowKit Go.Proofs.Ytkchcihglpcmiaa.Sk Go.Proofs.Ytkchcihglpcmiaa.Num Go.Proofs.Ytkchcihglpcmiaa.Wire Go.Proofs.Ytkchcihglpcmiaa.PLk
open Go.Proofs.YtkchcihglpcmiaaW.PrintWords Go.Proofs.YtkchcihglpcmiaaW.PrintLast Go.Proofs.YtkchcihglpcmiaaW.PrintMore

/-- A frame as it lies. -/
def kfr : Kind Fr where
  sz := 4
  K := fun w c S f cs => ∃ v, cs = [.int .i64 f.ctl, .int .i64 f.dest, .int .i64 f.src, v] ∧ Rd (kint .u8) w c S v f.data
  len := fun ⟨v, h, _⟩ => by rw [h]; rfl
  ext := fun ⟨v, h, r⟩ he hS => ⟨v, h, r.ext he hS⟩
  mono := fun ⟨v, h, r⟩ hS => ⟨v, h, r.mono hS⟩
  one := fun ⟨v, h, r⟩ u hu => by
    obtain ⟨A, cap, ev, _⟩ := r.form
    rw [h] at hu; simp at hu; rcases hu with rfl | rfl | rfl | rfl <;> first | rfl | (rw [ev]; rfl)
theorem info_fr : (Try.prog.info? 24).map (fun i => (i.zero, i.size, i.bytes)) = some (some (.agg #[.int .i64 0, .int .i64 0, .int .i64 0, .slice none 0 0]), 4, 48) := by kernel_rfl
/-- The frame that bytes are. -/
def frOf (xs : List Int) : Fr := (decodeV xs).getD ⟨0, 0, 0, []⟩
/-- What is told, what is pending, how many were lost. -/
def feedV : Nat → List Int → Int → List Fr × List Int × Int
  | 0, b, lost => ([], b, lost)
  | f + 1, b, lost =>
    if (lookV b).1 = 0 then ([], b, lost)
    else if (lookV b).1 = 1 then feedV f (b.drop 1) (lost + 1)
    else (frOf (b.take (lookV b).2) :: (feedV f (b.drop (lookV b).2) lost).1, (feedV f (b.drop (lookV b).2) lost).2)
def feedF (b : List Int) (lost : Int) : List Fr × List Int × Int := feedV (b.length + 1) b lost
theorem size_take (n : Nat) (xs : List Int) (h : sizeV n ≤ xs.length) : (xs.take (sizeV n)).length = sizeV n := by rw [List.length_take]; omega
theorem getD_take (xs : List Int) (n i : Nat) (h : i < n) : (xs.take n).getD i 0 = xs.getD i 0 := by
  rw [List.getD_eq_getElem?_getD, List.getElem?_take_of_lt h, List.getD_eq_getElem?_getD]
/-- What is whole is read. -/
theorem look_whole (b : List Int) (hb : Bytes8 b) (h : (lookV b).1 = 2) : 10 ≤ (lookV b).2 ∧ (lookV b).2 ≤ b.length ∧ (lookV b).2 ≤ 292 ∧ ∃ f, decodeV (b.take (lookV b).2) = some f := by
  unfold lookV at h ⊢
  by_cases h0 : b.length = 0
  · rw [if_pos h0] at h; cases h
  rw [if_neg h0] at h ⊢
  by_cases h1 : b.getD 0 0 = 5 ∧ (1 < b.length → b.getD 1 0 = 100)
  case neg => rw [if_pos h1] at h; cases h
  rw [if_neg (fun hh => hh h1)] at h ⊢
  by_cases h2 : b.length < 10
  · rw [if_pos h2] at h; cases h
  rw [if_neg h2] at h ⊢
  by_cases h3 : fitsV (b.take 10) = false
  · rw [if_pos h3] at h; cases h
  rw [if_neg h3] at h ⊢
  by_cases h4 : b.getD 2 0 < 5
  · rw [if_pos h4] at h; cases h
  rw [if_neg h4] at h ⊢
  by_cases h5 : b.length < sizeV (b.getD 2 0 - 5).toNat
  · rw [if_pos h5] at h; cases h
  rw [if_neg h5] at h ⊢
  by_cases h6 : (dataF (b.take (sizeV (b.getD 2 0 - 5).toNat))).2 ≥ 0
  · rw [if_pos h6] at h; cases h
  rw [if_neg h6] at h ⊢
  have r2 : b.getD 2 0 ≤ 255 := by
    have : b[2]? = some (b.getD 2 0) := by rw [List.getD_eq_getElem?_getD, List.getElem?_eq_getElem (by omega)]; rfl
    exact (hb _ (List.mem_of_getElem? this)).2
  generalize hn : (b.getD 2 0 - 5).toNat = n at *
  have hsm := size_mod n (by omega)
  have ht := size_take n b (by omega)
  refine ⟨by omega, by omega, by omega, ?_⟩
  unfold decodeV
  rw [ht, if_neg (by omega), getD_take _ _ _ (by omega), getD_take _ _ _ (by omega), if_neg (fun hh => hh ⟨h1.1, h1.2 (by omega)⟩), List.take_take, show min 10 (sizeV n) = 10 by omega, if_neg h3, getD_take _ _ _ (by omega), if_neg h4, hn, if_neg (fun hh => hh rfl), if_neg h6]
  exact ⟨_, rfl⟩
theorem look_kind (b : List Int) : (lookV b).1 = 0 ∨ (lookV b).1 = 1 ∨ (lookV b).1 = 2 := by
  unfold lookV
  repeat' split
  all_goals simp
theorem look_nil (b : List Int) (h : (lookV b).1 ≠ 0) : 1 ≤ b.length := by
  apply Classical.byContradiction
  intro hh
  apply h
  unfold lookV
  rw [if_pos (by omega)]
/-- A scanner at block g. -/
def Scn (w : World) (c : Col) (κ g : Nat) (S : List Nat) (b : List Int) (lost : Int) : Prop :=
  ∃ v, Bx w c κ g #[v, .int .i64 lost] 69 ∧ Rd (kint .u8) w c S v b
theorem Scn.ext {w w' : World} {c c' : Col} {κ g : Nat} {S M : List Nat} {b : List Int} {lost : Int} (h : Scn w c κ g S b lost) (he : Ext M w c w' c') (hM : κ ∉ M) (hS : ∀ k, k ∈ S → k ∉ M) : Scn w' c' κ g S b lost := by
  obtain ⟨v, h1, h2⟩ := h
  exact ⟨v, h1.ext he hM, h2.ext he hS⟩
theorem new_calls (w : World) (c : Col) (κ : Nat) (S : List Nat) : Calls Try.prog 15 #[] w fun e w' => ∃ c' g, e = .returned (.pointer (some ⟨g, 0, none⟩)) ∧ w.heap.size ≤ g ∧ Scn w' c' κ g S [] 0 ∧ Ext [] w c w' c' := by
  go_enter Try.func15, Try.ntmps15
  go_wp2
  go_ret
  exact ⟨_, w.heap.size, rfl, Nat.le_refl _, ⟨_, Bx.new w c κ _ _, Rd.nil _ _ _ _⟩, Ext.alloc [] w c _ κ⟩
theorem lost_calls (g κ : Nat) (b : List Int) (lost : Int) (w : World) (c : Col) (S : List Nat) (h : Scn w c κ g S b lost) : Calls Try.prog 17 #[.pointer (some ⟨g, 0, none⟩)] w fun e w' => e = .returned (.int .i64 lost) ∧ Ext [] w c w' c := by
  obtain ⟨v, h1, h2⟩ := h
  have s1 := h1.cell 1
  simp at s1
  go_enter Try.func17, Try.ntmps17
  go_wp2
  go_ret
  exact ⟨rfl, Ext.refl _ _ _⟩
theorem pending_calls (g κ : Nat) (b : List Int) (lost : Int) (w : World) (c : Col) (S : List Nat) (h : Scn w c κ g S b lost) : Calls Try.prog 18 #[.pointer (some ⟨g, 0, none⟩)] w fun e w' => e = .returned (.int .i64 b.length) ∧ Ext [] w c w' c := by
  obtain ⟨v, h1, h2⟩ := h
  obtain ⟨A, cap, rfl, _⟩ := h2.slice
  have s1 := h1.cell 0
  simp at s1
  go_enter Try.func18, Try.ntmps18
  go_wp2
  go_ret
  exact ⟨rfl, Ext.refl _ _ _⟩
end Go.Proofs.Ytkchcihglpcmiaa.Link
