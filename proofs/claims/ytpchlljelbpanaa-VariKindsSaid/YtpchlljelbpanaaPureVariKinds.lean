/- The pure law VariKinds of chapter 18. -/
import Derived.Test.YtpchlljelbpanaaPVari2x0
import Derived.Test.YtpchlljelbpanaaPVari2x1
import Derived.Test.YtpchlljelbpanaaPVari2x2
import Derived.Test.YtpchlljelbpanaaPVari2x3
import Derived.Test.YtpchlljelbpanaaPVari2x4
import Derived.Test.YtpchlljelbpanaaPVari2x5
import Derived.Test.YtpchlljelbpanaaPVari2x6
namespace Go.Proofs.Ytpchlljelbpanaa.Pure
open Go.RowKit Go.Proofs.Ytpchlljelbpanaa.PVari2 Go.Proofs.YtpchlljelbpanaaW.PrintWords Go.Proofs.YtpchlljelbpanaaW.PrintLast Go.Proofs.YtpchlljelbpanaaW.PrintMore

def kindV (g : Int) : Int := if g = 1 ∨ g = 2 then 1 else if g = 3 ∨ g = 4 then 2 else if g = 10 then 6 else if g = 20 ∨ g = 22 then 4 else if g = 21 then 5 else if g = 30 ∨ g = 32 then 3 else if g = 40 then 7 else 0
theorem kind_set (g : Int) (h : kindV g ≠ 0) : g = 1 ∨ g = 2 ∨ g = 3 ∨ g = 4 ∨ g = 10 ∨ g = 20 ∨ g = 21 ∨ g = 22 ∨ g = 30 ∨ g = 32 ∨ g = 40 := by
  unfold kindV at h
  omega
theorem kind_ok (k : Nat) (g : Int) : vari_Kind.f (k + 5) g = some (kindV g) := by
  by_cases h : kindV g = 0
  · have hn : g ≠ 1 ∧ g ≠ 2 ∧ g ≠ 3 ∧ g ≠ 4 ∧ g ≠ 10 ∧ g ≠ 20 ∧ g ≠ 21 ∧ g ≠ 22 ∧ g ≠ 30 ∧ g ≠ 32 ∧ g ≠ 40 := by
      refine ⟨?_, ?_, ?_, ?_, ?_, ?_, ?_, ?_, ?_, ?_, ?_⟩ <;> (rintro rfl; revert h; decide)
    obtain ⟨h1, h2, h3, h4, h5, h6, h7, h8, h9, h10, h11⟩ := hn
    rw [h]
    simp [vari_Kind.f, vari_Kind.j0, vari_Kind.j1, vari_Kind.j2, vari_Kind.j3, h1, h2, h3, h4, h5, h6, h7, h8, h9, h10, h11]
  · rcases kind_set g h with rfl | rfl | rfl | rfl | rfl | rfl | rfl | rfl | rfl | rfl | rfl <;> rfl
theorem w64 {x : Int} (h0 : -9223372036854775808 ≤ x) (h1 : x ≤ 9223372036854775807) : wrap64 x = x := by
  unfold wrap64; omega
theorem shape_none (k : Nat) (g v : Int) (hg : 0 ≤ g ∧ g ≤ 255) (hv : 0 ≤ v ∧ v ≤ 99) (h : 100 * g + v ≠ 102 ∧ 100 * g + v ≠ 1002 ∧ 100 * g + v ≠ 302 ∧ 100 * g + v ≠ 201 ∧ 100 * g + v ≠ 401 ∧ 100 * g + v ≠ 202 ∧ 100 * g + v ≠ 402 ∧ 100 * g + v ≠ 2001 ∧ 100 * g + v ≠ 2101 ∧ 100 * g + v ≠ 2201 ∧ 100 * g + v ≠ 3001 ∧ 100 * g + v ≠ 4001 ∧ 100 * g + v ≠ 3201 ∧ 100 * g + v ≠ 2205 ∧ 100 * g + v ≠ 3203 ∧ 100 * g + v ≠ 3002 ∧ 100 * g + v ≠ 4002 ∧ 100 * g + v ≠ 3202) : vari_shape.f (k + 5) g v = some (0, false, false) := by
  have e : wrap64 (wrap64 (100 * g) + v) = 100 * g + v := by rw [w64 (x := 100 * g) (by omega) (by omega), w64 (by omega) (by omega)]
  obtain ⟨n0, n1, n2, n3, n4, n5, n6, n7, n8, n9, n10, n11, n12, n13, n14, n15, n16, n17⟩ := h
  unfold vari_shape.f
  rw [e]
  generalize 100 * g + v = c at *
  simp [vari_shape.j0, vari_shape.j1, vari_shape.j2, vari_shape.j3, n0, n1, n2, n3, n4, n5, n6, n7, n8, n9, n10, n11, n12, n13, n14, n15, n16, n17]
theorem size_out (g v : Int) (h : g < 0 ∨ 255 < g ∨ v < 0 ∨ 99 < v) : vari_Size.f 29 g v = some (0, false) := by
  unfold vari_Size.f
  by_cases h1 : g < 0
  · rw [if_pos h1]; rfl
  · rw [if_neg h1]
    by_cases h2 : g > 255
    · rw [if_pos h2]; rfl
    · rw [if_neg h2]
      by_cases h3 : v < 0
      · rw [if_pos h3]; rfl
      · rw [if_neg h3, decide_eq_true (by omega : v > 99)]; rfl
theorem put_out (g v a b c d : Int) (h : kindV g = 0 ∨ v < 0 ∨ 99 < v) : vari_Put.f 29 g v a b c d = some ([], false) := by
  unfold vari_Put.f vari_shaped.f
  rw [kind_ok 24]
  simp only [Option.bind_some]
  by_cases h1 : kindV g = 0
  · rw [if_pos h1]; rfl
  · rw [if_neg h1]
    by_cases h2 : v < 0
    · rw [if_pos h2]; rfl
    · rw [if_neg h2, if_pos (by omega)]; rfl
theorem size_none (g v : Int) (hg : 0 ≤ g ∧ g ≤ 255) (hv : 0 ≤ v ∧ v ≤ 99) (h : 100 * g + v ≠ 102 ∧ 100 * g + v ≠ 1002 ∧ 100 * g + v ≠ 302 ∧ 100 * g + v ≠ 201 ∧ 100 * g + v ≠ 401 ∧ 100 * g + v ≠ 202 ∧ 100 * g + v ≠ 402 ∧ 100 * g + v ≠ 2001 ∧ 100 * g + v ≠ 2101 ∧ 100 * g + v ≠ 2201 ∧ 100 * g + v ≠ 3001 ∧ 100 * g + v ≠ 4001 ∧ 100 * g + v ≠ 3201 ∧ 100 * g + v ≠ 2205 ∧ 100 * g + v ≠ 3203 ∧ 100 * g + v ≠ 3002 ∧ 100 * g + v ≠ 4002 ∧ 100 * g + v ≠ 3202 ∧ 100 * g + v ≠ 1201 ∧ 100 * g + v ≠ 4101 ∧ 100 * g + v ≠ 4102 ∧ 100 * g + v ≠ 5001 ∧ 100 * g + v ≠ 5202 ∧ 100 * g + v ≠ 8001) : vari_Size.f 29 g v = some (0, false) := by
  have e : wrap64 (wrap64 (100 * g) + v) = 100 * g + v := by rw [w64 (x := 100 * g) (by omega) (by omega), w64 (by omega) (by omega)]
  obtain ⟨n0, n1, n2, n3, n4, n5, n6, n7, n8, n9, n10, n11, n12, n13, n14, n15, n16, n17, n18, n19, n20, n21, n22, n23⟩ := h
  have hs := shape_none 23 g v hg hv ⟨n0, n1, n2, n3, n4, n5, n6, n7, n8, n9, n10, n11, n12, n13, n14, n15, n16, n17⟩
  unfold vari_Size.f
  rw [if_neg (by omega), if_neg (by omega), if_neg (by omega), decide_eq_false (by omega)]
  show vari_Size.j0 (28 + 1) g v false = _
  rw [vari_Size.j0, if_neg (by decide), hs]
  simp only [Option.bind_some]
  rw [if_neg (by decide), e, if_neg n18, if_neg n19, if_neg n20, if_neg n21, if_neg n22, if_neg n23]
theorem put_none (g v a b c d : Int) (hg : 0 ≤ g ∧ g ≤ 255) (hv : 0 ≤ v ∧ v ≤ 99) (h : 100 * g + v ≠ 102 ∧ 100 * g + v ≠ 1002 ∧ 100 * g + v ≠ 302 ∧ 100 * g + v ≠ 201 ∧ 100 * g + v ≠ 401 ∧ 100 * g + v ≠ 202 ∧ 100 * g + v ≠ 402 ∧ 100 * g + v ≠ 2001 ∧ 100 * g + v ≠ 2101 ∧ 100 * g + v ≠ 2201 ∧ 100 * g + v ≠ 3001 ∧ 100 * g + v ≠ 4001 ∧ 100 * g + v ≠ 3201 ∧ 100 * g + v ≠ 2205 ∧ 100 * g + v ≠ 3203 ∧ 100 * g + v ≠ 3002 ∧ 100 * g + v ≠ 4002 ∧ 100 * g + v ≠ 3202) : vari_Put.f 29 g v a b c d = some ([], false) := by
  have hs := shape_none 24 g v hg hv h
  unfold vari_Put.f vari_shaped.f
  rw [kind_ok 24]
  simp only [Option.bind_some]
  by_cases h1 : kindV g = 0
  · rw [if_pos h1]; rfl
  · rw [if_neg h1, if_neg (by omega), if_neg (by omega), hs]; rfl
theorem code_of (g v a b : Int) (hv : 0 ≤ v ∧ v ≤ 99) (hb : 0 ≤ b ∧ b ≤ 99) (e : 100 * g + v = 100 * a + b) : g = a ∧ v = b := by omega
set_option maxHeartbeats 4000000 in
theorem size_put (g v : Int) : ∃ n b L ok, vari_Size.f 29 g v = some (n, b) ∧ vari_Put.f 29 g v 0 0 0 0 = some (L, ok) ∧ b = decide (n > 0) ∧ (kindV g = 0 → ok = false) ∧ (kindV g ≠ 0 → b = ok) := by
  by_cases ho : g < 0 ∨ 255 < g ∨ v < 0 ∨ 99 < v
  · by_cases hk : kindV g = 0
    · exact ⟨0, false, [], false, size_out g v ho, put_out g v 0 0 0 0 (.inl hk), by decide, fun _ => rfl, fun _ => rfl⟩
    · have := kind_set g hk
      exact ⟨0, false, [], false, size_out g v ho, put_out g v 0 0 0 0 (by omega), by decide, fun _ => rfl, fun _ => rfl⟩
  have hg : 0 ≤ g ∧ g ≤ 255 := by omega
  have hv : 0 ≤ v ∧ v ≤ 99 := by omega
  clear ho
  by_cases h102 : g = 1 ∧ v = 2
  · obtain ⟨rfl, rfl⟩ := h102
    exact ⟨1, true, [0], true, by kernel_rfl, by kernel_rfl, by decide, fun h => absurd h (by decide), fun _ => rfl⟩
  by_cases h1002 : g = 10 ∧ v = 2
  · obtain ⟨rfl, rfl⟩ := h1002
    exact ⟨1, true, [0], true, by kernel_rfl, by kernel_rfl, by decide, fun h => absurd h (by decide), fun _ => rfl⟩
  by_cases h302 : g = 3 ∧ v = 2
  · obtain ⟨rfl, rfl⟩ := h302
    exact ⟨1, true, [0], true, by kernel_rfl, by kernel_rfl, by decide, fun h => absurd h (by decide), fun _ => rfl⟩
  by_cases h201 : g = 2 ∧ v = 1
  · obtain ⟨rfl, rfl⟩ := h201
    exact ⟨1, true, [0], true, by kernel_rfl, by kernel_rfl, by decide, fun h => absurd h (by decide), fun _ => rfl⟩
  by_cases h401 : g = 4 ∧ v = 1
  · obtain ⟨rfl, rfl⟩ := h401
    exact ⟨1, true, [0], true, by kernel_rfl, by kernel_rfl, by decide, fun h => absurd h (by decide), fun _ => rfl⟩
  by_cases h202 : g = 2 ∧ v = 2
  · obtain ⟨rfl, rfl⟩ := h202
    exact ⟨7, true, [0, 0, 0, 0, 0, 0, 0], true, by kernel_rfl, by kernel_rfl, by decide, fun h => absurd h (by decide), fun _ => rfl⟩
  by_cases h402 : g = 4 ∧ v = 2
  · obtain ⟨rfl, rfl⟩ := h402
    exact ⟨7, true, [0, 0, 0, 0, 0, 0, 0], true, by kernel_rfl, by kernel_rfl, by decide, fun h => absurd h (by decide), fun _ => rfl⟩
  by_cases h2001 : g = 20 ∧ v = 1
  · obtain ⟨rfl, rfl⟩ := h2001
    exact ⟨5, true, [0, 0, 0, 0, 0], true, by kernel_rfl, by kernel_rfl, by decide, fun h => absurd h (by decide), fun _ => rfl⟩
  by_cases h2101 : g = 21 ∧ v = 1
  · obtain ⟨rfl, rfl⟩ := h2101
    exact ⟨5, true, [0, 0, 0, 0, 0], true, by kernel_rfl, by kernel_rfl, by decide, fun h => absurd h (by decide), fun _ => rfl⟩
  by_cases h2201 : g = 22 ∧ v = 1
  · obtain ⟨rfl, rfl⟩ := h2201
    exact ⟨5, true, [0, 0, 0, 0, 0], true, by kernel_rfl, by kernel_rfl, by decide, fun h => absurd h (by decide), fun _ => rfl⟩
  by_cases h3001 : g = 30 ∧ v = 1
  · obtain ⟨rfl, rfl⟩ := h3001
    exact ⟨5, true, [0, 0, 0, 0, 0], true, by kernel_rfl, by kernel_rfl, by decide, fun h => absurd h (by decide), fun _ => rfl⟩
  by_cases h4001 : g = 40 ∧ v = 1
  · obtain ⟨rfl, rfl⟩ := h4001
    exact ⟨5, true, [0, 0, 0, 0, 0], true, by kernel_rfl, by kernel_rfl, by decide, fun h => absurd h (by decide), fun _ => rfl⟩
  by_cases h3201 : g = 32 ∧ v = 1
  · obtain ⟨rfl, rfl⟩ := h3201
    exact ⟨5, true, [0, 0, 0, 0, 0], true, by kernel_rfl, by kernel_rfl, by decide, fun h => absurd h (by decide), fun _ => rfl⟩
  by_cases h2205 : g = 22 ∧ v = 5
  · obtain ⟨rfl, rfl⟩ := h2205
    exact ⟨11, true, [0, 0, 0, 0, 0, 0, 0, 0, 0, 0, 0], true, by kernel_rfl, by kernel_rfl, by decide, fun h => absurd h (by decide), fun _ => rfl⟩
  by_cases h3203 : g = 32 ∧ v = 3
  · obtain ⟨rfl, rfl⟩ := h3203
    exact ⟨11, true, [0, 0, 0, 0, 0, 0, 0, 0, 0, 0, 0], true, by kernel_rfl, by kernel_rfl, by decide, fun h => absurd h (by decide), fun _ => rfl⟩
  by_cases h3002 : g = 30 ∧ v = 2
  · obtain ⟨rfl, rfl⟩ := h3002
    exact ⟨3, true, [0, 0, 0], true, by kernel_rfl, by kernel_rfl, by decide, fun h => absurd h (by decide), fun _ => rfl⟩
  by_cases h4002 : g = 40 ∧ v = 2
  · obtain ⟨rfl, rfl⟩ := h4002
    exact ⟨3, true, [0, 0, 0], true, by kernel_rfl, by kernel_rfl, by decide, fun h => absurd h (by decide), fun _ => rfl⟩
  by_cases h3202 : g = 32 ∧ v = 2
  · obtain ⟨rfl, rfl⟩ := h3202
    exact ⟨3, true, [0, 0, 0], true, by kernel_rfl, by kernel_rfl, by decide, fun h => absurd h (by decide), fun _ => rfl⟩
  by_cases h1201 : g = 12 ∧ v = 1
  · obtain ⟨rfl, rfl⟩ := h1201
    exact ⟨11, true, [], false, by kernel_rfl, put_out _ _ 0 0 0 0 (.inl (by decide)), by decide, fun _ => rfl, fun h => absurd (by decide) h⟩
  by_cases h4101 : g = 41 ∧ v = 1
  · obtain ⟨rfl, rfl⟩ := h4101
    exact ⟨5, true, [], false, by kernel_rfl, put_out _ _ 0 0 0 0 (.inl (by decide)), by decide, fun _ => rfl, fun h => absurd (by decide) h⟩
  by_cases h4102 : g = 41 ∧ v = 2
  · obtain ⟨rfl, rfl⟩ := h4102
    exact ⟨3, true, [], false, by kernel_rfl, put_out _ _ 0 0 0 0 (.inl (by decide)), by decide, fun _ => rfl, fun h => absurd (by decide) h⟩
  by_cases h5001 : g = 50 ∧ v = 1
  · obtain ⟨rfl, rfl⟩ := h5001
    exact ⟨6, true, [], false, by kernel_rfl, put_out _ _ 0 0 0 0 (.inl (by decide)), by decide, fun _ => rfl, fun h => absurd (by decide) h⟩
  by_cases h5202 : g = 52 ∧ v = 2
  · obtain ⟨rfl, rfl⟩ := h5202
    exact ⟨2, true, [], false, by kernel_rfl, put_out _ _ 0 0 0 0 (.inl (by decide)), by decide, fun _ => rfl, fun h => absurd (by decide) h⟩
  by_cases h8001 : g = 80 ∧ v = 1
  · obtain ⟨rfl, rfl⟩ := h8001
    exact ⟨1, true, [], false, by kernel_rfl, put_out _ _ 0 0 0 0 (.inl (by decide)), by decide, fun _ => rfl, fun h => absurd (by decide) h⟩
  exact ⟨0, false, [], false, size_none g v hg hv ⟨fun e => h102 (code_of g v 1 2 hv (by decide) e), fun e => h1002 (code_of g v 10 2 hv (by decide) e), fun e => h302 (code_of g v 3 2 hv (by decide) e), fun e => h201 (code_of g v 2 1 hv (by decide) e), fun e => h401 (code_of g v 4 1 hv (by decide) e), fun e => h202 (code_of g v 2 2 hv (by decide) e), fun e => h402 (code_of g v 4 2 hv (by decide) e), fun e => h2001 (code_of g v 20 1 hv (by decide) e), fun e => h2101 (code_of g v 21 1 hv (by decide) e), fun e => h2201 (code_of g v 22 1 hv (by decide) e), fun e => h3001 (code_of g v 30 1 hv (by decide) e), fun e => h4001 (code_of g v 40 1 hv (by decide) e), fun e => h3201 (code_of g v 32 1 hv (by decide) e), fun e => h2205 (code_of g v 22 5 hv (by decide) e), fun e => h3203 (code_of g v 32 3 hv (by decide) e), fun e => h3002 (code_of g v 30 2 hv (by decide) e), fun e => h4002 (code_of g v 40 2 hv (by decide) e), fun e => h3202 (code_of g v 32 2 hv (by decide) e), fun e => h1201 (code_of g v 12 1 hv (by decide) e), fun e => h4101 (code_of g v 41 1 hv (by decide) e), fun e => h4102 (code_of g v 41 2 hv (by decide) e), fun e => h5001 (code_of g v 50 1 hv (by decide) e), fun e => h5202 (code_of g v 52 2 hv (by decide) e), fun e => h8001 (code_of g v 80 1 hv (by decide) e)⟩, put_none g v 0 0 0 0 hg hv ⟨fun e => h102 (code_of g v 1 2 hv (by decide) e), fun e => h1002 (code_of g v 10 2 hv (by decide) e), fun e => h302 (code_of g v 3 2 hv (by decide) e), fun e => h201 (code_of g v 2 1 hv (by decide) e), fun e => h401 (code_of g v 4 1 hv (by decide) e), fun e => h202 (code_of g v 2 2 hv (by decide) e), fun e => h402 (code_of g v 4 2 hv (by decide) e), fun e => h2001 (code_of g v 20 1 hv (by decide) e), fun e => h2101 (code_of g v 21 1 hv (by decide) e), fun e => h2201 (code_of g v 22 1 hv (by decide) e), fun e => h3001 (code_of g v 30 1 hv (by decide) e), fun e => h4001 (code_of g v 40 1 hv (by decide) e), fun e => h3201 (code_of g v 32 1 hv (by decide) e), fun e => h2205 (code_of g v 22 5 hv (by decide) e), fun e => h3203 (code_of g v 32 3 hv (by decide) e), fun e => h3002 (code_of g v 30 2 hv (by decide) e), fun e => h4002 (code_of g v 40 2 hv (by decide) e), fun e => h3202 (code_of g v 32 2 hv (by decide) e)⟩, by decide, fun _ => rfl, fun _ => rfl⟩
theorem j2_ok (g v : Int) : yardlaw18_VariKinds.j2 30 g v false = some true := by
  obtain ⟨n, b, L, ok, e1, e2, e3, e4, e5⟩ := size_put g v
  show yardlaw18_VariKinds.j2 (29 + 1) g v false = some true
  rw [yardlaw18_VariKinds.j2]
  rw [if_neg (by decide), e1, e2, kind_ok 24]
  simp only [Option.bind_some, yardlaw18_first.f, if_true]
  by_cases hk : kindV g = 0
  · rw [if_pos hk, e4 hk, if_neg (by decide), e3, beq_self_eq_true]
  · rw [if_neg hk, ← e5 hk, beq_self_eq_true, if_pos rfl, e3, beq_self_eq_true]
theorem VariKinds : yardlaw18_VariKinds.Pure := by
  intro a0 g v _ _ _
  refine ⟨32, ?_⟩
  have key := j2_ok g v
  by_cases h : 1 ≤ a0 ∧ a0 ≤ 7
  · rcases (by omega : a0 = 1 ∨ a0 = 2 ∨ a0 = 3 ∨ a0 = 4 ∨ a0 = 5 ∨ a0 = 6 ∨ a0 = 7) with rfl | rfl | rfl | rfl | rfl | rfl | rfl
    · exact (show yardlaw18_VariKinds.f 32 1 g v = yardlaw18_VariKinds.j2 30 g v false by kernel_rfl).trans key
    · exact (show yardlaw18_VariKinds.f 32 2 g v = yardlaw18_VariKinds.j2 30 g v false by kernel_rfl).trans key
    · exact (show yardlaw18_VariKinds.f 32 3 g v = yardlaw18_VariKinds.j2 30 g v false by kernel_rfl).trans key
    · exact (show yardlaw18_VariKinds.f 32 4 g v = yardlaw18_VariKinds.j2 30 g v false by kernel_rfl).trans key
    · exact (show yardlaw18_VariKinds.f 32 5 g v = yardlaw18_VariKinds.j2 30 g v false by kernel_rfl).trans key
    · exact (show yardlaw18_VariKinds.f 32 6 g v = yardlaw18_VariKinds.j2 30 g v false by kernel_rfl).trans key
    · exact (show yardlaw18_VariKinds.f 32 7 g v = yardlaw18_VariKinds.j2 30 g v false by kernel_rfl).trans key
  · have s1 : vari_Static.f a0 = some (0, 0) := by
      unfold vari_Static.f
      rw [if_neg (by omega), if_neg (by omega), if_neg (by omega), if_neg (by omega), if_neg (by omega), if_neg (by omega), if_neg (by omega)]
    have s2 : vari_Event.f a0 = some (0, 0) := by
      unfold vari_Event.f
      rw [if_neg (by omega), if_neg (by omega), if_neg (by omega), if_neg (by omega)]
    have s3 : vari_Size.f 32 0 0 = some (0, false) := by kernel_rfl
    have e7 : (if a0 ≥ 1 then decide (a0 ≤ 7) else false) = false := by
      split
      · exact decide_eq_false (by omega)
      · rfl
    have j1 : yardlaw18_VariKinds.j1 31 a0 g v 0 0 0 0 0 false 0 false false false = some true := (show _ = yardlaw18_VariKinds.j2 30 g v false by kernel_rfl).trans key
    have j0 : yardlaw18_VariKinds.j0 32 a0 g v 0 0 0 0 0 false 0 false false = some true := by
      show yardlaw18_VariKinds.j0 (31 + 1) a0 g v 0 0 0 0 0 false 0 false false = some true
      rw [yardlaw18_VariKinds.j0]
      by_cases h1 : a0 ≥ 1
      · rw [if_pos h1, decide_eq_false (by omega)]; exact j1
      · rw [if_neg h1]; exact j1
    unfold yardlaw18_VariKinds.f
    simp only [yardlaw18_first.f, Option.bind_some, if_true, s1, s2, s3]
    by_cases h1 : a0 ≥ 1
    · rw [if_pos h1, decide_eq_false (by omega)]; exact j0
    · rw [if_neg h1]; exact j0

end Go.Proofs.Ytpchlljelbpanaa.Pure
