/- VariTables, in plain numbers. -/
import Derived.Test.YtpchlljelbpanaaPV5x0
import Derived.Test.YtpchlljelbpanaaPV5x1
namespace Go.Proofs.Ytpchlljelbpanaa.Pure
open Go.RowKit Go.Proofs.Ytpchlljelbpanaa.PVariTables Go.Proofs.Ytpchlljelbpanaa.PV5 Go.Proofs.YtpchlljelbpanaaW.PrintWords Go.Proofs.YtpchlljelbpanaaW.PrintLast Go.Proofs.YtpchlljelbpanaaW.PrintMore

theorem w64 {x : Int} (h0 : -9223372036854775808 ≤ x) (h1 : x ≤ 9223372036854775807) : wrap64 x = x := by
  unfold wrap64; omega
def kindV (g : Int) : Int := if g = 1 ∨ g = 2 then 1 else if g = 3 ∨ g = 4 then 2 else if g = 10 then 6 else if g = 20 ∨ g = 22 then 4 else if g = 21 then 5 else if g = 30 ∨ g = 32 then 3 else if g = 40 then 7 else 0
theorem kind_set (g : Int) (h : kindV g ≠ 0) : g = 1 ∨ g = 2 ∨ g = 3 ∨ g = 4 ∨ g = 10 ∨ g = 20 ∨ g = 21 ∨ g = 22 ∨ g = 30 ∨ g = 32 ∨ g = 40 := by
  unfold kindV at h
  omega
theorem kind_ok (k : Nat) (g : Int) : vari_Kind.f (k + 5) g = some (kindV g) := by
  by_cases h : kindV g = 0
  · have hn : g ≠ 1 ∧ g ≠ 2 ∧ g ≠ 3 ∧ g ≠ 4 ∧ g ≠ 10 ∧ g ≠ 20 ∧ g ≠ 21 ∧ g ≠ 22 ∧ g ≠ 30 ∧ g ≠ 32 ∧ g ≠ 40 := by
      refine ⟨?_, ?_, ?_, ?_, ?_, ?_, ?_, ?_, ?_, ?_, ?_⟩ <;> (rintro rfl; revert h; decide)
    obtain ⟨h1, h2, h3, h4, h5, h6, h7, h8, h9, h10, h11⟩ := hn
    rw [h]
    simp [vari_Kind.f, vari_Kind.j0, vari_Kind.j1, vari_Kind.j2, vari_Kind.j3, h1, h2, h3, h4, h5, h6, h7, h8, h9, h10, h11]
  · rcases kind_set g h with rfl | rfl | rfl | rfl | rfl | rfl | rfl | rfl | rfl | rfl | rfl <;> rfl
theorem shape_none (k : Nat) (g v : Int) (hg : 0 ≤ g ∧ g ≤ 255) (hv : 0 ≤ v ∧ v ≤ 99) (h : 100 * g + v ≠ 102 ∧ 100 * g + v ≠ 1002 ∧ 100 * g + v ≠ 302 ∧ 100 * g + v ≠ 201 ∧ 100 * g + v ≠ 401 ∧ 100 * g + v ≠ 202 ∧ 100 * g + v ≠ 402 ∧ 100 * g + v ≠ 2001 ∧ 100 * g + v ≠ 2101 ∧ 100 * g + v ≠ 2201 ∧ 100 * g + v ≠ 3001 ∧ 100 * g + v ≠ 4001 ∧ 100 * g + v ≠ 3201 ∧ 100 * g + v ≠ 2205 ∧ 100 * g + v ≠ 3203 ∧ 100 * g + v ≠ 3002 ∧ 100 * g + v ≠ 4002 ∧ 100 * g + v ≠ 3202) : vari_shape.f (k + 5) g v = some (0, false, false) := by
  have e : wrap64 (wrap64 (100 * g) + v) = 100 * g + v := by rw [w64 (x := 100 * g) (by omega) (by omega), w64 (by omega) (by omega)]
  obtain ⟨n0, n1, n2, n3, n4, n5, n6, n7, n8, n9, n10, n11, n12, n13, n14, n15, n16, n17⟩ := h
  unfold vari_shape.f
  rw [e]
  generalize 100 * g + v = c at *
  simp [vari_shape.j0, vari_shape.j1, vari_shape.j2, vari_shape.j3, n0, n1, n2, n3, n4, n5, n6, n7, n8, n9, n10, n11, n12, n13, n14, n15, n16, n17]
theorem size_out (g v : Int) (h : g < 0 ∨ 255 < g ∨ v < 0 ∨ 99 < v) : vari_Size.f 29 g v = some (0, false) := by
  unfold vari_Size.f
  by_cases h1 : g < 0
  · rw [if_pos h1]; rfl
  · rw [if_neg h1]
    by_cases h2 : g > 255
    · rw [if_pos h2]; rfl
    · rw [if_neg h2]
      by_cases h3 : v < 0
      · rw [if_pos h3]; rfl
      · rw [if_neg h3, decide_eq_true (by omega : v > 99)]; rfl
theorem put_out (g v a b c d : Int) (h : kindV g = 0 ∨ v < 0 ∨ 99 < v) : vari_Put.f 29 g v a b c d = some ([], false) := by
  unfold vari_Put.f vari_shaped.f
  rw [kind_ok 24]
  simp only [Option.bind_some]
  by_cases h1 : kindV g = 0
  · rw [if_pos h1]; rfl
  · rw [if_neg h1]
    by_cases h2 : v < 0
    · rw [if_pos h2]; rfl
    · rw [if_neg h2, if_pos (by omega)]; rfl
theorem put_none (g v a b c d : Int) (hg : 0 ≤ g ∧ g ≤ 255) (hv : 0 ≤ v ∧ v ≤ 99) (h : 100 * g + v ≠ 102 ∧ 100 * g + v ≠ 1002 ∧ 100 * g + v ≠ 302 ∧ 100 * g + v ≠ 201 ∧ 100 * g + v ≠ 401 ∧ 100 * g + v ≠ 202 ∧ 100 * g + v ≠ 402 ∧ 100 * g + v ≠ 2001 ∧ 100 * g + v ≠ 2101 ∧ 100 * g + v ≠ 2201 ∧ 100 * g + v ≠ 3001 ∧ 100 * g + v ≠ 4001 ∧ 100 * g + v ≠ 3201 ∧ 100 * g + v ≠ 2205 ∧ 100 * g + v ≠ 3203 ∧ 100 * g + v ≠ 3002 ∧ 100 * g + v ≠ 4002 ∧ 100 * g + v ≠ 3202) : vari_Put.f 29 g v a b c d = some ([], false) := by
  have hs := shape_none 24 g v hg hv h
  unfold vari_Put.f vari_shaped.f
  rw [kind_ok 24]
  simp only [Option.bind_some]
  by_cases h1 : kindV g = 0
  · rw [if_pos h1]; rfl
  · rw [if_neg h1, if_neg (by omega), if_neg (by omega), hs]; rfl
theorem size_none (g v : Int) (hg : 0 ≤ g ∧ g ≤ 255) (hv : 0 ≤ v ∧ v ≤ 99) (h : 100 * g + v ≠ 102 ∧ 100 * g + v ≠ 1002 ∧ 100 * g + v ≠ 302 ∧ 100 * g + v ≠ 201 ∧ 100 * g + v ≠ 401 ∧ 100 * g + v ≠ 202 ∧ 100 * g + v ≠ 402 ∧ 100 * g + v ≠ 2001 ∧ 100 * g + v ≠ 2101 ∧ 100 * g + v ≠ 2201 ∧ 100 * g + v ≠ 3001 ∧ 100 * g + v ≠ 4001 ∧ 100 * g + v ≠ 3201 ∧ 100 * g + v ≠ 2205 ∧ 100 * g + v ≠ 3203 ∧ 100 * g + v ≠ 3002 ∧ 100 * g + v ≠ 4002 ∧ 100 * g + v ≠ 3202 ∧ 100 * g + v ≠ 1201 ∧ 100 * g + v ≠ 4101 ∧ 100 * g + v ≠ 4102 ∧ 100 * g + v ≠ 5001 ∧ 100 * g + v ≠ 5202 ∧ 100 * g + v ≠ 8001) : vari_Size.f 29 g v = some (0, false) := by
  have e : wrap64 (wrap64 (100 * g) + v) = 100 * g + v := by rw [w64 (x := 100 * g) (by omega) (by omega), w64 (by omega) (by omega)]
  obtain ⟨n0, n1, n2, n3, n4, n5, n6, n7, n8, n9, n10, n11, n12, n13, n14, n15, n16, n17, n18, n19, n20, n21, n22, n23⟩ := h
  have hs := shape_none 23 g v hg hv ⟨n0, n1, n2, n3, n4, n5, n6, n7, n8, n9, n10, n11, n12, n13, n14, n15, n16, n17⟩
  unfold vari_Size.f
  rw [if_neg (by omega), if_neg (by omega), if_neg (by omega), decide_eq_false (by omega)]
  show vari_Size.j0 (28 + 1) g v false = _
  rw [vari_Size.j0, if_neg (by decide), hs]
  simp only [Option.bind_some]
  rw [if_neg (by decide), e, if_neg n18, if_neg n19, if_neg n20, if_neg n21, if_neg n22, if_neg n23]
theorem kind_ref (k : Nat) (g : Int) : yardref17_Kind.f (k + 5) g = some (kindV g) := by
  by_cases h : kindV g = 0
  · have hn : g ≠ 1 ∧ g ≠ 2 ∧ g ≠ 3 ∧ g ≠ 4 ∧ g ≠ 10 ∧ g ≠ 20 ∧ g ≠ 21 ∧ g ≠ 22 ∧ g ≠ 30 ∧ g ≠ 32 ∧ g ≠ 40 := by
      refine ⟨?_, ?_, ?_, ?_, ?_, ?_, ?_, ?_, ?_, ?_, ?_⟩ <;> (rintro rfl; revert h; decide)
    obtain ⟨h1, h2, h3, h4, h5, h6, h7, h8, h9, h10, h11⟩ := hn
    rw [h]
    simp [yardref17_Kind.f, yardref17_Kind.j0, yardref17_Kind.j1, yardref17_Kind.j2, yardref17_Kind.j3, h1, h2, h3, h4, h5, h6, h7, h8, h9, h10, h11]
  · rcases kind_set g h with rfl | rfl | rfl | rfl | rfl | rfl | rfl | rfl | rfl | rfl | rfl <;> rfl
theorem stat_ref (k : Int) : vari_Static.f k = some (Vari.statV k) := by
  unfold vari_Static.f Vari.statV
  repeat' split
  all_goals first | rfl | omega
theorem event_ref (k : Int) : vari_Event.f k = some (Vari.eventV k) := by
  unfold vari_Event.f Vari.eventV
  repeat' split
  all_goals first | rfl | omega
theorem rows_none (g v : Int) (h : ¬ (g = 12 ∧ v = 1) ∧ ¬ (g = 41 ∧ v = 1) ∧ ¬ (g = 41 ∧ v = 2) ∧ ¬ (g = 50 ∧ v = 1) ∧ ¬ (g = 52 ∧ v = 2) ∧ ¬ (g = 80 ∧ v = 1)) : Vari.rowsV g v = (0, false) := by
  obtain ⟨h1, h2, h3, h4, h5, h6⟩ := h
  unfold Vari.rowsV
  rw [if_neg h1, if_neg h2, if_neg h3, if_neg h4, if_neg h5, if_neg h6]
def OneOf (g v : Int) : Prop := (g = 1 ∧ v = 2) ∨ (g = 10 ∧ v = 2) ∨ (g = 3 ∧ v = 2) ∨ (g = 2 ∧ v = 1) ∨ (g = 4 ∧ v = 1) ∨ (g = 2 ∧ v = 2) ∨ (g = 4 ∧ v = 2) ∨ (g = 20 ∧ v = 1) ∨ (g = 21 ∧ v = 1) ∨ (g = 22 ∧ v = 1) ∨ (g = 30 ∧ v = 1) ∨ (g = 40 ∧ v = 1) ∨ (g = 32 ∧ v = 1) ∨ (g = 22 ∧ v = 5) ∨ (g = 32 ∧ v = 3) ∨ (g = 30 ∧ v = 2) ∨ (g = 40 ∧ v = 2) ∨ (g = 32 ∧ v = 2) ∨ (g = 12 ∧ v = 1) ∨ (g = 41 ∧ v = 1) ∨ (g = 41 ∧ v = 2) ∨ (g = 50 ∧ v = 1) ∨ (g = 52 ∧ v = 2) ∨ (g = 80 ∧ v = 1)
theorem mn32 (v : Int) : 0 ≤ (mx (mn v 3) 1) - 1 ∧ (mx (mn v 3) 1) - 1 < 3 := by
  unfold mx mn
  split <;> split <;> omega
set_option maxHeartbeats 4000000 in
theorem shape_no (g v : Int) (h : ¬ OneOf g v) : ∃ a b c d e, yardref17_shapeOf.f 20 g v = some (a, b, c, d, e, false) := by
  by_cases g1 : g = 1
  · subst g1; have : (v == 2) = false := beq_eq_false_iff_ne.2 (fun e => h (by subst e; unfold OneOf; decide)); ((iterate 5 apply Exists.intro); simp [yardref17_shapeOf.f, yardref17_shapeOf.j0, this]; exact ⟨rfl, rfl, rfl, rfl, rfl⟩)
  by_cases g2 : g = 10
  · subst g2; have : (v == 2) = false := beq_eq_false_iff_ne.2 (fun e => h (by subst e; unfold OneOf; decide)); ((iterate 5 apply Exists.intro); simp [yardref17_shapeOf.f, yardref17_shapeOf.j0, this]; exact ⟨rfl, rfl, rfl, rfl, rfl⟩)
  by_cases g3 : g = 3
  · subst g3; have : (v == 2) = false := beq_eq_false_iff_ne.2 (fun e => h (by subst e; unfold OneOf; decide)); ((iterate 5 apply Exists.intro); simp [yardref17_shapeOf.f, yardref17_shapeOf.j0, this]; exact ⟨rfl, rfl, rfl, rfl, rfl⟩)
  by_cases g4 : g = 2
  · subst g4; have : (v == 2) = false := beq_eq_false_iff_ne.2 (fun e => h (by subst e; unfold OneOf; decide)); have h1 : v ≠ 1 := (fun e => h (by subst e; unfold OneOf; decide)); ((iterate 5 apply Exists.intro); simp [yardref17_shapeOf.f, yardref17_shapeOf.j0, yardref17_shapeOf.j1, this, h1]; exact ⟨rfl, rfl, rfl, rfl, rfl⟩)
  by_cases g5 : g = 4
  · subst g5; have : (v == 2) = false := beq_eq_false_iff_ne.2 (fun e => h (by subst e; unfold OneOf; decide)); have h1 : v ≠ 1 := (fun e => h (by subst e; unfold OneOf; decide)); ((iterate 5 apply Exists.intro); simp [yardref17_shapeOf.f, yardref17_shapeOf.j0, yardref17_shapeOf.j1, this, h1]; exact ⟨rfl, rfl, rfl, rfl, rfl⟩)
  by_cases g6 : g = 20
  · subst g6; have : (v == 1) = false := beq_eq_false_iff_ne.2 (fun e => h (by subst e; unfold OneOf; decide)); ((iterate 5 apply Exists.intro); simp [yardref17_shapeOf.f, yardref17_shapeOf.j0, yardref17_shapeOf.j1, yardref17_shapeOf.j2, this]; exact ⟨rfl, rfl, rfl, rfl, rfl⟩)
  by_cases g7 : g = 21
  · subst g7; have : (v == 1) = false := beq_eq_false_iff_ne.2 (fun e => h (by subst e; unfold OneOf; decide)); ((iterate 5 apply Exists.intro); simp [yardref17_shapeOf.f, yardref17_shapeOf.j0, yardref17_shapeOf.j1, yardref17_shapeOf.j2, this]; exact ⟨rfl, rfl, rfl, rfl, rfl⟩)
  by_cases g8 : g = 22
  · subst g8; have : (v == 5) = false := beq_eq_false_iff_ne.2 (fun e => h (by subst e; unfold OneOf; decide)); have h1 : v ≠ 1 := (fun e => h (by subst e; unfold OneOf; decide)); ((iterate 5 apply Exists.intro); simp [yardref17_shapeOf.f, yardref17_shapeOf.j0, yardref17_shapeOf.j1, yardref17_shapeOf.j2, this, h1]; exact ⟨rfl, rfl, rfl, rfl, rfl⟩)
  by_cases g9 : g = 30
  · subst g9; have : (v == 2) = false := beq_eq_false_iff_ne.2 (fun e => h (by subst e; unfold OneOf; decide)); have h1 : v ≠ 1 := (fun e => h (by subst e; unfold OneOf; decide)); ((iterate 5 apply Exists.intro); simp [yardref17_shapeOf.f, yardref17_shapeOf.j0, yardref17_shapeOf.j1, yardref17_shapeOf.j2, yardref17_shapeOf.j3, this, h1]; exact ⟨rfl, rfl, rfl, rfl, rfl⟩)
  by_cases g10 : g = 40
  · subst g10; have : (v == 2) = false := beq_eq_false_iff_ne.2 (fun e => h (by subst e; unfold OneOf; decide)); have h1 : v ≠ 1 := (fun e => h (by subst e; unfold OneOf; decide)); ((iterate 5 apply Exists.intro); simp [yardref17_shapeOf.f, yardref17_shapeOf.j0, yardref17_shapeOf.j1, yardref17_shapeOf.j2, yardref17_shapeOf.j3, this, h1]; exact ⟨rfl, rfl, rfl, rfl, rfl⟩)
  by_cases g11 : g = 32
  · subst g11
    obtain ⟨m1, m2⟩ := mn32 v
    have e : ∀ n, yardref17_shapeOf.f 20 32 v = yardref17_shapeOf.j3 17 v 32 n → True := fun _ _ => trivial
    have hs : yardref17_shapeOf.f 20 32 v = yardref17_shapeOf.j3 17 v 32 false := by simp [yardref17_shapeOf.f, yardref17_shapeOf.j0, yardref17_shapeOf.j1, yardref17_shapeOf.j2]
    rw [hs, yardref17_shapeOf.j3, if_neg (by decide), if_pos rfl]
    simp only [Option.bind_some]
    rw [if_pos m1, if_pos (by simpa using m2)]
    by_cases hv : v ≥ 1
    · have h1 : v ≠ 1 := (fun e => h (by subst e; unfold OneOf; decide)); have h2 : v ≠ 2 := (fun e => h (by subst e; unfold OneOf; decide)); have h3 : v ≠ 3 := (fun e => h (by subst e; unfold OneOf; decide)); rw [if_pos hv, decide_eq_false (by omega : ¬ v ≤ 3)]; exact ⟨_, _, _, _, _, rfl⟩
    · rw [if_neg hv]; exact ⟨_, _, _, _, _, rfl⟩
  · exact ⟨0, 0, 0, 0, 0, by simp [yardref17_shapeOf.f, yardref17_shapeOf.j0, yardref17_shapeOf.j1, yardref17_shapeOf.j2, yardref17_shapeOf.j3, g1, g2, g3, g4, g5, g6, g7, g8, g9, g10, g11]⟩
theorem inr1 (g v : Int) (h : ¬ (g < 0 ∨ 255 < g ∨ v < 0 ∨ 99 < v)) : 0 ≤ g ∧ g ≤ 255 := by omega
theorem inr2 (g v : Int) (h : ¬ (g < 0 ∨ 255 < g ∨ v < 0 ∨ 99 < v)) : 0 ≤ v ∧ v ≤ 99 := by omega
theorem ne100 (g v a b c : Int) (hv : 0 ≤ v ∧ v ≤ 99) (hb : 0 ≤ b ∧ b ≤ 99) (hc : 100 * a + b = c) (h : ¬ (g = a ∧ v = b)) : 100 * g + v ≠ c := by
  omega
theorem not_one (g v a b : Int) (h : ¬ OneOf g v) (hab : OneOf a b) : ¬ (g = a ∧ v = b) := fun ⟨e1, e2⟩ => h (by rw [e1, e2]; exact hab)
theorem one1_2 : OneOf 1 2 := by unfold OneOf; decide
theorem one10_2 : OneOf 10 2 := by unfold OneOf; decide
theorem one3_2 : OneOf 3 2 := by unfold OneOf; decide
theorem one2_1 : OneOf 2 1 := by unfold OneOf; decide
theorem one4_1 : OneOf 4 1 := by unfold OneOf; decide
theorem one2_2 : OneOf 2 2 := by unfold OneOf; decide
theorem one4_2 : OneOf 4 2 := by unfold OneOf; decide
theorem one20_1 : OneOf 20 1 := by unfold OneOf; decide
theorem one21_1 : OneOf 21 1 := by unfold OneOf; decide
theorem one22_1 : OneOf 22 1 := by unfold OneOf; decide
theorem one30_1 : OneOf 30 1 := by unfold OneOf; decide
theorem one40_1 : OneOf 40 1 := by unfold OneOf; decide
theorem one32_1 : OneOf 32 1 := by unfold OneOf; decide
theorem one22_5 : OneOf 22 5 := by unfold OneOf; decide
theorem one32_3 : OneOf 32 3 := by unfold OneOf; decide
theorem one30_2 : OneOf 30 2 := by unfold OneOf; decide
theorem one40_2 : OneOf 40 2 := by unfold OneOf; decide
theorem one32_2 : OneOf 32 2 := by unfold OneOf; decide
theorem one12_1 : OneOf 12 1 := by unfold OneOf; decide
theorem one41_1 : OneOf 41 1 := by unfold OneOf; decide
theorem one41_2 : OneOf 41 2 := by unfold OneOf; decide
theorem one50_1 : OneOf 50 1 := by unfold OneOf; decide
theorem one52_2 : OneOf 52 2 := by unfold OneOf; decide
theorem one80_1 : OneOf 80 1 := by unfold OneOf; decide
theorem size_none' (g v : Int) (h : ¬ OneOf g v) : vari_Size.f 29 g v = some (0, false) := by
  by_cases ho : g < 0 ∨ 255 < g ∨ v < 0 ∨ 99 < v
  · exact size_out g v ho
  · have hg := inr1 g v ho
    have hv := inr2 g v ho
    exact size_none g v hg hv ⟨ne100 g v 1 2 102 hv (by decide) (by decide) (not_one g v 1 2 h one1_2), ne100 g v 10 2 1002 hv (by decide) (by decide) (not_one g v 10 2 h one10_2), ne100 g v 3 2 302 hv (by decide) (by decide) (not_one g v 3 2 h one3_2), ne100 g v 2 1 201 hv (by decide) (by decide) (not_one g v 2 1 h one2_1), ne100 g v 4 1 401 hv (by decide) (by decide) (not_one g v 4 1 h one4_1), ne100 g v 2 2 202 hv (by decide) (by decide) (not_one g v 2 2 h one2_2), ne100 g v 4 2 402 hv (by decide) (by decide) (not_one g v 4 2 h one4_2), ne100 g v 20 1 2001 hv (by decide) (by decide) (not_one g v 20 1 h one20_1), ne100 g v 21 1 2101 hv (by decide) (by decide) (not_one g v 21 1 h one21_1), ne100 g v 22 1 2201 hv (by decide) (by decide) (not_one g v 22 1 h one22_1), ne100 g v 30 1 3001 hv (by decide) (by decide) (not_one g v 30 1 h one30_1), ne100 g v 40 1 4001 hv (by decide) (by decide) (not_one g v 40 1 h one40_1), ne100 g v 32 1 3201 hv (by decide) (by decide) (not_one g v 32 1 h one32_1), ne100 g v 22 5 2205 hv (by decide) (by decide) (not_one g v 22 5 h one22_5), ne100 g v 32 3 3203 hv (by decide) (by decide) (not_one g v 32 3 h one32_3), ne100 g v 30 2 3002 hv (by decide) (by decide) (not_one g v 30 2 h one30_2), ne100 g v 40 2 4002 hv (by decide) (by decide) (not_one g v 40 2 h one40_2), ne100 g v 32 2 3202 hv (by decide) (by decide) (not_one g v 32 2 h one32_2), ne100 g v 12 1 1201 hv (by decide) (by decide) (not_one g v 12 1 h one12_1), ne100 g v 41 1 4101 hv (by decide) (by decide) (not_one g v 41 1 h one41_1), ne100 g v 41 2 4102 hv (by decide) (by decide) (not_one g v 41 2 h one41_2), ne100 g v 50 1 5001 hv (by decide) (by decide) (not_one g v 50 1 h one50_1), ne100 g v 52 2 5202 hv (by decide) (by decide) (not_one g v 52 2 h one52_2), ne100 g v 80 1 8001 hv (by decide) (by decide) (not_one g v 80 1 h one80_1)⟩
theorem ref_none (g v : Int) (h : ¬ OneOf g v) : yardref17_Size.f g v = some (0, false) := by
  obtain ⟨a, b, c, d, e, hs⟩ := shape_no g v h
  have hr := rows_none g v ⟨not_one g v 12 1 h one12_1, not_one g v 41 1 h one41_1, not_one g v 41 2 h one41_2, not_one g v 50 1 h one50_1, not_one g v 52 2 h one52_2, not_one g v 80 1 h one80_1⟩
  unfold yardref17_Size.f Vari.refSize
  rw [hs]
  simp only [Option.isSome_some, if_true]
  rw [hr]
set_option maxHeartbeats 4000000 in
theorem size_ref (g v : Int) : ∃ n b, vari_Size.f 29 g v = some (n, b) ∧ yardref17_Size.f g v = some (n, b) := by
  by_cases h : OneOf g v
  · rcases h with ⟨rfl, rfl⟩ | ⟨rfl, rfl⟩ | ⟨rfl, rfl⟩ | ⟨rfl, rfl⟩ | ⟨rfl, rfl⟩ | ⟨rfl, rfl⟩ | ⟨rfl, rfl⟩ | ⟨rfl, rfl⟩ | ⟨rfl, rfl⟩ | ⟨rfl, rfl⟩ | ⟨rfl, rfl⟩ | ⟨rfl, rfl⟩ | ⟨rfl, rfl⟩ | ⟨rfl, rfl⟩ | ⟨rfl, rfl⟩ | ⟨rfl, rfl⟩ | ⟨rfl, rfl⟩ | ⟨rfl, rfl⟩ | ⟨rfl, rfl⟩ | ⟨rfl, rfl⟩ | ⟨rfl, rfl⟩ | ⟨rfl, rfl⟩ | ⟨rfl, rfl⟩ | ⟨rfl, rfl⟩
    · exact ⟨1, true, by kernel_rfl, by kernel_rfl⟩
    · exact ⟨1, true, by kernel_rfl, by kernel_rfl⟩
    · exact ⟨1, true, by kernel_rfl, by kernel_rfl⟩
    · exact ⟨1, true, by kernel_rfl, by kernel_rfl⟩
    · exact ⟨1, true, by kernel_rfl, by kernel_rfl⟩
    · exact ⟨7, true, by kernel_rfl, by kernel_rfl⟩
    · exact ⟨7, true, by kernel_rfl, by kernel_rfl⟩
    · exact ⟨5, true, by kernel_rfl, by kernel_rfl⟩
    · exact ⟨5, true, by kernel_rfl, by kernel_rfl⟩
    · exact ⟨5, true, by kernel_rfl, by kernel_rfl⟩
    · exact ⟨5, true, by kernel_rfl, by kernel_rfl⟩
    · exact ⟨5, true, by kernel_rfl, by kernel_rfl⟩
    · exact ⟨5, true, by kernel_rfl, by kernel_rfl⟩
    · exact ⟨11, true, by kernel_rfl, by kernel_rfl⟩
    · exact ⟨11, true, by kernel_rfl, by kernel_rfl⟩
    · exact ⟨3, true, by kernel_rfl, by kernel_rfl⟩
    · exact ⟨3, true, by kernel_rfl, by kernel_rfl⟩
    · exact ⟨3, true, by kernel_rfl, by kernel_rfl⟩
    · exact ⟨11, true, by kernel_rfl, by kernel_rfl⟩
    · exact ⟨5, true, by kernel_rfl, by kernel_rfl⟩
    · exact ⟨3, true, by kernel_rfl, by kernel_rfl⟩
    · exact ⟨6, true, by kernel_rfl, by kernel_rfl⟩
    · exact ⟨2, true, by kernel_rfl, by kernel_rfl⟩
    · exact ⟨1, true, by kernel_rfl, by kernel_rfl⟩
  · exact ⟨0, false, size_none' g v h, ref_none g v h⟩
theorem VariTables : yardlaw18_VariTables.Pure := by
  intro g v k _ _ _
  obtain ⟨n, b, h1, h2⟩ := size_ref g v
  refine ⟨29, ?_⟩
  unfold yardlaw18_VariTables.f
  rw [h1, h2, stat_ref, event_ref, show yardref17_Static.f k = some (Vari.statV k) from rfl, show yardref17_Event.f k = some (Vari.eventV k) from rfl, kind_ok 24, kind_ref 24]
  simp [yardlaw18_first.f]

end Go.Proofs.Ytpchlljelbpanaa.Pure
