/- Chapter 18: the document's Size. -/
import Derived.Test.YtpchlljelbpanaaVtab
import Derived.Test.YtpchlljelbpanaaPVariTablesx5
namespace Go.Proofs.Ytpchlljelbpanaa.Vari
open Go.RowKit Go.Proofs.Ytpchlljelbpanaa.Sk Go.Proofs.Ytpchlljelbpanaa.Num Go.Proofs.Ytpchlljelbpanaa.Wire Go.Proofs.Ytpchlljelbpanaa.PVariTables
open Go.Proofs.YtpchlljelbpanaaW.PrintWords Go.Proofs.YtpchlljelbpanaaW.PrintLast Go.Proofs.YtpchlljelbpanaaW.PrintMore

def rowsV (g v : Int) : Int × Bool := if g = 12 ∧ v = 1 then (11, true) else if g = 41 ∧ v = 1 then (5, true) else if g = 41 ∧ v = 2 then (3, true) else if g = 50 ∧ v = 1 then (6, true) else if g = 52 ∧ v = 2 then (2, true) else if g = 80 ∧ v = 1 then (1, true) else (0, false)
abbrev SizeP (n : Int) (ok : Bool) (w : World) (e : Ending) (w' : World) : Prop := e = .returned (.tuple #[.int .i64 n, .bool ok]) ∧ Below w.heap.size w w'
set_option maxHeartbeats 1600000 in
theorem rsize_ok (g v r1 r2 r3 r4 r5 : Int) (h : yardref17_shapeOf.f 20 g v = some (r1, r2, r3, r4, r5, true)) (w : World) : Calls Try.prog 23 #[.int .i64 g, .int .i64 v] w (SizeP (wrap64 (wrap64 (r1 + r2) + r3)) true w) := by
  have HS := Lib.hid (fun w => yardref17_shapeOf.calls 20 g v r1 r2 r3 r4 r5 true w h)
  clear h
  go_enter Try.func23, Try.ntmps23
  go_wp2_with (go_at_call 36; refine (HS.out _).mono ?_; rintro e w1 ⟨rfl, hb1⟩; have hB := hb1.trans ((Below.refl w1.heap.size w1).alloc (Nat.le_refl _) (.cells #[.int .i64 r1, .int .i64 r2, .int .i64 r3, .int .i64 r4, .int .i64 r5] 59) |>.mono hb1.size))
  go_ret2
  exact ⟨rfl, hB⟩

set_option maxHeartbeats 3200000 in
theorem rsize_row0 (r1 r2 r3 r4 r5 : Int) (h : yardref17_shapeOf.f 20 12 1 = some (r1, r2, r3, r4, r5, false)) (w : World) : Calls Try.prog 23 #[.int .i64 12, .int .i64 1] w (SizeP 11 true w) := by
  have HS := Lib.hid (fun w => yardref17_shapeOf.calls 20 12 1 r1 r2 r3 r4 r5 false w h)
  clear h
  go_enter Try.func23, Try.ntmps23
  go_wp2_with (go_at_call 36; refine (HS.out _).mono ?_; rintro e w1 ⟨rfl, hb1⟩; have hB := (hb1.alloc hb1.size (.cells #[.int .i64 r1, .int .i64 r2, .int .i64 r3, .int .i64 r4, .int .i64 r5] 59)).alloc (by rw [World.size_alloc]; exact Nat.le_succ_of_le hb1.size) (.cells #[.int .i64 12, .int .i64 1, .int .i64 11, .int .i64 41, .int .i64 1, .int .i64 5, .int .i64 41, .int .i64 2, .int .i64 3, .int .i64 50, .int .i64 1, .int .i64 6, .int .i64 52, .int .i64 2, .int .i64 2, .int .i64 80, .int .i64 1, .int .i64 1] 78); have hX : ((w1.alloc (.cells #[.int .i64 r1, .int .i64 r2, .int .i64 r3, .int .i64 r4, .int .i64 r5] 59)).alloc (.cells #[.int .i64 12, .int .i64 1, .int .i64 11, .int .i64 41, .int .i64 1, .int .i64 5, .int .i64 41, .int .i64 2, .int .i64 3, .int .i64 50, .int .i64 1, .int .i64 6, .int .i64 52, .int .i64 2, .int .i64 2, .int .i64 80, .int .i64 1, .int .i64 1] 78)).heap[w1.heap.size + 1]? = some (.cells #[.int .i64 12, .int .i64 1, .int .i64 11, .int .i64 41, .int .i64 1, .int .i64 5, .int .i64 41, .int .i64 2, .int .i64 3, .int .i64 50, .int .i64 1, .int .i64 6, .int .i64 52, .int .i64 2, .int .i64 2, .int .i64 80, .int .i64 1, .int .i64 1] 78 (0, 0)) := (by have := heap_alloc_new (w1.alloc (.cells #[.int .i64 r1, .int .i64 r2, .int .i64 r3, .int .i64 r4, .int .i64 r5] 59)) (.cells #[.int .i64 12, .int .i64 1, .int .i64 11, .int .i64 41, .int .i64 1, .int .i64 5, .int .i64 41, .int .i64 2, .int .i64 3, .int .i64 50, .int .i64 1, .int .i64 6, .int .i64 52, .int .i64 2, .int .i64 2, .int .i64 80, .int .i64 1, .int .i64 1] 78); rw [World.size_alloc] at this; exact this))
  generalize ((w1.alloc (.cells #[.int .i64 r1, .int .i64 r2, .int .i64 r3, .int .i64 r4, .int .i64 r5] 59)).alloc (.cells #[.int .i64 12, .int .i64 1, .int .i64 11, .int .i64 41, .int .i64 1, .int .i64 5, .int .i64 41, .int .i64 2, .int .i64 3, .int .i64 50, .int .i64 1, .int .i64 6, .int .i64 52, .int .i64 2, .int .i64 2, .int .i64 80, .int .i64 1, .int .i64 1] 78)) = W2 at *
  generalize w1.heap.size + 1 = B at *
  have z0 : W2.cell? ⟨B, 0, none⟩ = some (.int .i64 12) := blkCell hX 0
  have z1 : W2.cell? ⟨B, 1, none⟩ = some (.int .i64 1) := blkCell hX 1
  have z2 : W2.cell? ⟨B, 2, none⟩ = some (.int .i64 11) := blkCell hX 2
  have z3 : W2.cell? ⟨B, 3, none⟩ = some (.int .i64 41) := blkCell hX 3
  have z4 : W2.cell? ⟨B, 4, none⟩ = some (.int .i64 1) := blkCell hX 4
  have z5 : W2.cell? ⟨B, 5, none⟩ = some (.int .i64 5) := blkCell hX 5
  have z6 : W2.cell? ⟨B, 6, none⟩ = some (.int .i64 41) := blkCell hX 6
  have z7 : W2.cell? ⟨B, 7, none⟩ = some (.int .i64 2) := blkCell hX 7
  have z8 : W2.cell? ⟨B, 8, none⟩ = some (.int .i64 3) := blkCell hX 8
  have z9 : W2.cell? ⟨B, 9, none⟩ = some (.int .i64 50) := blkCell hX 9
  have z10 : W2.cell? ⟨B, 10, none⟩ = some (.int .i64 1) := blkCell hX 10
  have z11 : W2.cell? ⟨B, 11, none⟩ = some (.int .i64 6) := blkCell hX 11
  have z12 : W2.cell? ⟨B, 12, none⟩ = some (.int .i64 52) := blkCell hX 12
  have z13 : W2.cell? ⟨B, 13, none⟩ = some (.int .i64 2) := blkCell hX 13
  have z14 : W2.cell? ⟨B, 14, none⟩ = some (.int .i64 2) := blkCell hX 14
  have z15 : W2.cell? ⟨B, 15, none⟩ = some (.int .i64 80) := blkCell hX 15
  have z16 : W2.cell? ⟨B, 16, none⟩ = some (.int .i64 1) := blkCell hX 16
  have z17 : W2.cell? ⟨B, 17, none⟩ = some (.int .i64 1) := blkCell hX 17
  clear hX hb1 HS
  go_wp2
  go_loop [9] (fun i => ∃ k : Nat, k ≤ 0 ∧ i = .int .i64 k) (fun i => 1 - (intOf i).toNat)
  case atStart => exact ⟨0, by omega, rfl⟩
  case round =>
    obtain ⟨k, hk, rfl⟩ := hrel
    obtain rfl : k = 0 := by omega
    all_goals go_wp2
    all_goals first
      | (go_ret2; exact ⟨rfl, hB⟩)
      | exact ⟨⟨1, by omega, rfl⟩, by simp [intOf]⟩
      | exact ⟨⟨2, by omega, rfl⟩, by simp [intOf]⟩
      | exact ⟨⟨3, by omega, rfl⟩, by simp [intOf]⟩
      | exact ⟨⟨4, by omega, rfl⟩, by simp [intOf]⟩
      | exact ⟨⟨5, by omega, rfl⟩, by simp [intOf]⟩

set_option maxHeartbeats 3200000 in
theorem rsize_row1 (r1 r2 r3 r4 r5 : Int) (h : yardref17_shapeOf.f 20 41 1 = some (r1, r2, r3, r4, r5, false)) (w : World) : Calls Try.prog 23 #[.int .i64 41, .int .i64 1] w (SizeP 5 true w) := by
  have HS := Lib.hid (fun w => yardref17_shapeOf.calls 20 41 1 r1 r2 r3 r4 r5 false w h)
  clear h
  go_enter Try.func23, Try.ntmps23
  go_wp2_with (go_at_call 36; refine (HS.out _).mono ?_; rintro e w1 ⟨rfl, hb1⟩; have hB := (hb1.alloc hb1.size (.cells #[.int .i64 r1, .int .i64 r2, .int .i64 r3, .int .i64 r4, .int .i64 r5] 59)).alloc (by rw [World.size_alloc]; exact Nat.le_succ_of_le hb1.size) (.cells #[.int .i64 12, .int .i64 1, .int .i64 11, .int .i64 41, .int .i64 1, .int .i64 5, .int .i64 41, .int .i64 2, .int .i64 3, .int .i64 50, .int .i64 1, .int .i64 6, .int .i64 52, .int .i64 2, .int .i64 2, .int .i64 80, .int .i64 1, .int .i64 1] 78); have hX : ((w1.alloc (.cells #[.int .i64 r1, .int .i64 r2, .int .i64 r3, .int .i64 r4, .int .i64 r5] 59)).alloc (.cells #[.int .i64 12, .int .i64 1, .int .i64 11, .int .i64 41, .int .i64 1, .int .i64 5, .int .i64 41, .int .i64 2, .int .i64 3, .int .i64 50, .int .i64 1, .int .i64 6, .int .i64 52, .int .i64 2, .int .i64 2, .int .i64 80, .int .i64 1, .int .i64 1] 78)).heap[w1.heap.size + 1]? = some (.cells #[.int .i64 12, .int .i64 1, .int .i64 11, .int .i64 41, .int .i64 1, .int .i64 5, .int .i64 41, .int .i64 2, .int .i64 3, .int .i64 50, .int .i64 1, .int .i64 6, .int .i64 52, .int .i64 2, .int .i64 2, .int .i64 80, .int .i64 1, .int .i64 1] 78 (0, 0)) := (by have := heap_alloc_new (w1.alloc (.cells #[.int .i64 r1, .int .i64 r2, .int .i64 r3, .int .i64 r4, .int .i64 r5] 59)) (.cells #[.int .i64 12, .int .i64 1, .int .i64 11, .int .i64 41, .int .i64 1, .int .i64 5, .int .i64 41, .int .i64 2, .int .i64 3, .int .i64 50, .int .i64 1, .int .i64 6, .int .i64 52, .int .i64 2, .int .i64 2, .int .i64 80, .int .i64 1, .int .i64 1] 78); rw [World.size_alloc] at this; exact this))
  generalize ((w1.alloc (.cells #[.int .i64 r1, .int .i64 r2, .int .i64 r3, .int .i64 r4, .int .i64 r5] 59)).alloc (.cells #[.int .i64 12, .int .i64 1, .int .i64 11, .int .i64 41, .int .i64 1, .int .i64 5, .int .i64 41, .int .i64 2, .int .i64 3, .int .i64 50, .int .i64 1, .int .i64 6, .int .i64 52, .int .i64 2, .int .i64 2, .int .i64 80, .int .i64 1, .int .i64 1] 78)) = W2 at *
  generalize w1.heap.size + 1 = B at *
  have z0 : W2.cell? ⟨B, 0, none⟩ = some (.int .i64 12) := blkCell hX 0
  have z1 : W2.cell? ⟨B, 1, none⟩ = some (.int .i64 1) := blkCell hX 1
  have z2 : W2.cell? ⟨B, 2, none⟩ = some (.int .i64 11) := blkCell hX 2
  have z3 : W2.cell? ⟨B, 3, none⟩ = some (.int .i64 41) := blkCell hX 3
  have z4 : W2.cell? ⟨B, 4, none⟩ = some (.int .i64 1) := blkCell hX 4
  have z5 : W2.cell? ⟨B, 5, none⟩ = some (.int .i64 5) := blkCell hX 5
  have z6 : W2.cell? ⟨B, 6, none⟩ = some (.int .i64 41) := blkCell hX 6
  have z7 : W2.cell? ⟨B, 7, none⟩ = some (.int .i64 2) := blkCell hX 7
  have z8 : W2.cell? ⟨B, 8, none⟩ = some (.int .i64 3) := blkCell hX 8
  have z9 : W2.cell? ⟨B, 9, none⟩ = some (.int .i64 50) := blkCell hX 9
  have z10 : W2.cell? ⟨B, 10, none⟩ = some (.int .i64 1) := blkCell hX 10
  have z11 : W2.cell? ⟨B, 11, none⟩ = some (.int .i64 6) := blkCell hX 11
  have z12 : W2.cell? ⟨B, 12, none⟩ = some (.int .i64 52) := blkCell hX 12
  have z13 : W2.cell? ⟨B, 13, none⟩ = some (.int .i64 2) := blkCell hX 13
  have z14 : W2.cell? ⟨B, 14, none⟩ = some (.int .i64 2) := blkCell hX 14
  have z15 : W2.cell? ⟨B, 15, none⟩ = some (.int .i64 80) := blkCell hX 15
  have z16 : W2.cell? ⟨B, 16, none⟩ = some (.int .i64 1) := blkCell hX 16
  have z17 : W2.cell? ⟨B, 17, none⟩ = some (.int .i64 1) := blkCell hX 17
  clear hX hb1 HS
  go_wp2
  go_loop [9] (fun i => ∃ k : Nat, k ≤ 1 ∧ i = .int .i64 k) (fun i => 2 - (intOf i).toNat)
  case atStart => exact ⟨0, by omega, rfl⟩
  case round =>
    obtain ⟨k, hk, rfl⟩ := hrel
    obtain rfl | rfl : k = 0 ∨ k = 1 := by omega
    all_goals go_wp2
    all_goals first
      | (go_ret2; exact ⟨rfl, hB⟩)
      | exact ⟨⟨1, by omega, rfl⟩, by simp [intOf]⟩
      | exact ⟨⟨2, by omega, rfl⟩, by simp [intOf]⟩
      | exact ⟨⟨3, by omega, rfl⟩, by simp [intOf]⟩
      | exact ⟨⟨4, by omega, rfl⟩, by simp [intOf]⟩
      | exact ⟨⟨5, by omega, rfl⟩, by simp [intOf]⟩

set_option maxHeartbeats 3200000 in
theorem rsize_row2 (r1 r2 r3 r4 r5 : Int) (h : yardref17_shapeOf.f 20 41 2 = some (r1, r2, r3, r4, r5, false)) (w : World) : Calls Try.prog 23 #[.int .i64 41, .int .i64 2] w (SizeP 3 true w) := by
  have HS := Lib.hid (fun w => yardref17_shapeOf.calls 20 41 2 r1 r2 r3 r4 r5 false w h)
  clear h
  go_enter Try.func23, Try.ntmps23
  go_wp2_with (go_at_call 36; refine (HS.out _).mono ?_; rintro e w1 ⟨rfl, hb1⟩; have hB := (hb1.alloc hb1.size (.cells #[.int .i64 r1, .int .i64 r2, .int .i64 r3, .int .i64 r4, .int .i64 r5] 59)).alloc (by rw [World.size_alloc]; exact Nat.le_succ_of_le hb1.size) (.cells #[.int .i64 12, .int .i64 1, .int .i64 11, .int .i64 41, .int .i64 1, .int .i64 5, .int .i64 41, .int .i64 2, .int .i64 3, .int .i64 50, .int .i64 1, .int .i64 6, .int .i64 52, .int .i64 2, .int .i64 2, .int .i64 80, .int .i64 1, .int .i64 1] 78); have hX : ((w1.alloc (.cells #[.int .i64 r1, .int .i64 r2, .int .i64 r3, .int .i64 r4, .int .i64 r5] 59)).alloc (.cells #[.int .i64 12, .int .i64 1, .int .i64 11, .int .i64 41, .int .i64 1, .int .i64 5, .int .i64 41, .int .i64 2, .int .i64 3, .int .i64 50, .int .i64 1, .int .i64 6, .int .i64 52, .int .i64 2, .int .i64 2, .int .i64 80, .int .i64 1, .int .i64 1] 78)).heap[w1.heap.size + 1]? = some (.cells #[.int .i64 12, .int .i64 1, .int .i64 11, .int .i64 41, .int .i64 1, .int .i64 5, .int .i64 41, .int .i64 2, .int .i64 3, .int .i64 50, .int .i64 1, .int .i64 6, .int .i64 52, .int .i64 2, .int .i64 2, .int .i64 80, .int .i64 1, .int .i64 1] 78 (0, 0)) := (by have := heap_alloc_new (w1.alloc (.cells #[.int .i64 r1, .int .i64 r2, .int .i64 r3, .int .i64 r4, .int .i64 r5] 59)) (.cells #[.int .i64 12, .int .i64 1, .int .i64 11, .int .i64 41, .int .i64 1, .int .i64 5, .int .i64 41, .int .i64 2, .int .i64 3, .int .i64 50, .int .i64 1, .int .i64 6, .int .i64 52, .int .i64 2, .int .i64 2, .int .i64 80, .int .i64 1, .int .i64 1] 78); rw [World.size_alloc] at this; exact this))
  generalize ((w1.alloc (.cells #[.int .i64 r1, .int .i64 r2, .int .i64 r3, .int .i64 r4, .int .i64 r5] 59)).alloc (.cells #[.int .i64 12, .int .i64 1, .int .i64 11, .int .i64 41, .int .i64 1, .int .i64 5, .int .i64 41, .int .i64 2, .int .i64 3, .int .i64 50, .int .i64 1, .int .i64 6, .int .i64 52, .int .i64 2, .int .i64 2, .int .i64 80, .int .i64 1, .int .i64 1] 78)) = W2 at *
  generalize w1.heap.size + 1 = B at *
  have z0 : W2.cell? ⟨B, 0, none⟩ = some (.int .i64 12) := blkCell hX 0
  have z1 : W2.cell? ⟨B, 1, none⟩ = some (.int .i64 1) := blkCell hX 1
  have z2 : W2.cell? ⟨B, 2, none⟩ = some (.int .i64 11) := blkCell hX 2
  have z3 : W2.cell? ⟨B, 3, none⟩ = some (.int .i64 41) := blkCell hX 3
  have z4 : W2.cell? ⟨B, 4, none⟩ = some (.int .i64 1) := blkCell hX 4
  have z5 : W2.cell? ⟨B, 5, none⟩ = some (.int .i64 5) := blkCell hX 5
  have z6 : W2.cell? ⟨B, 6, none⟩ = some (.int .i64 41) := blkCell hX 6
  have z7 : W2.cell? ⟨B, 7, none⟩ = some (.int .i64 2) := blkCell hX 7
  have z8 : W2.cell? ⟨B, 8, none⟩ = some (.int .i64 3) := blkCell hX 8
  have z9 : W2.cell? ⟨B, 9, none⟩ = some (.int .i64 50) := blkCell hX 9
  have z10 : W2.cell? ⟨B, 10, none⟩ = some (.int .i64 1) := blkCell hX 10
  have z11 : W2.cell? ⟨B, 11, none⟩ = some (.int .i64 6) := blkCell hX 11
  have z12 : W2.cell? ⟨B, 12, none⟩ = some (.int .i64 52) := blkCell hX 12
  have z13 : W2.cell? ⟨B, 13, none⟩ = some (.int .i64 2) := blkCell hX 13
  have z14 : W2.cell? ⟨B, 14, none⟩ = some (.int .i64 2) := blkCell hX 14
  have z15 : W2.cell? ⟨B, 15, none⟩ = some (.int .i64 80) := blkCell hX 15
  have z16 : W2.cell? ⟨B, 16, none⟩ = some (.int .i64 1) := blkCell hX 16
  have z17 : W2.cell? ⟨B, 17, none⟩ = some (.int .i64 1) := blkCell hX 17
  clear hX hb1 HS
  go_wp2
  go_loop [9] (fun i => ∃ k : Nat, k ≤ 2 ∧ i = .int .i64 k) (fun i => 3 - (intOf i).toNat)
  case atStart => exact ⟨0, by omega, rfl⟩
  case round =>
    obtain ⟨k, hk, rfl⟩ := hrel
    obtain rfl | rfl | rfl : k = 0 ∨ k = 1 ∨ k = 2 := by omega
    all_goals go_wp2
    all_goals first
      | (go_ret2; exact ⟨rfl, hB⟩)
      | exact ⟨⟨1, by omega, rfl⟩, by simp [intOf]⟩
      | exact ⟨⟨2, by omega, rfl⟩, by simp [intOf]⟩
      | exact ⟨⟨3, by omega, rfl⟩, by simp [intOf]⟩
      | exact ⟨⟨4, by omega, rfl⟩, by simp [intOf]⟩
      | exact ⟨⟨5, by omega, rfl⟩, by simp [intOf]⟩

set_option maxHeartbeats 3200000 in
theorem rsize_row3 (r1 r2 r3 r4 r5 : Int) (h : yardref17_shapeOf.f 20 50 1 = some (r1, r2, r3, r4, r5, false)) (w : World) : Calls Try.prog 23 #[.int .i64 50, .int .i64 1] w (SizeP 6 true w) := by
  have HS := Lib.hid (fun w => yardref17_shapeOf.calls 20 50 1 r1 r2 r3 r4 r5 false w h)
  clear h
  go_enter Try.func23, Try.ntmps23
  go_wp2_with (go_at_call 36; refine (HS.out _).mono ?_; rintro e w1 ⟨rfl, hb1⟩; have hB := (hb1.alloc hb1.size (.cells #[.int .i64 r1, .int .i64 r2, .int .i64 r3, .int .i64 r4, .int .i64 r5] 59)).alloc (by rw [World.size_alloc]; exact Nat.le_succ_of_le hb1.size) (.cells #[.int .i64 12, .int .i64 1, .int .i64 11, .int .i64 41, .int .i64 1, .int .i64 5, .int .i64 41, .int .i64 2, .int .i64 3, .int .i64 50, .int .i64 1, .int .i64 6, .int .i64 52, .int .i64 2, .int .i64 2, .int .i64 80, .int .i64 1, .int .i64 1] 78); have hX : ((w1.alloc (.cells #[.int .i64 r1, .int .i64 r2, .int .i64 r3, .int .i64 r4, .int .i64 r5] 59)).alloc (.cells #[.int .i64 12, .int .i64 1, .int .i64 11, .int .i64 41, .int .i64 1, .int .i64 5, .int .i64 41, .int .i64 2, .int .i64 3, .int .i64 50, .int .i64 1, .int .i64 6, .int .i64 52, .int .i64 2, .int .i64 2, .int .i64 80, .int .i64 1, .int .i64 1] 78)).heap[w1.heap.size + 1]? = some (.cells #[.int .i64 12, .int .i64 1, .int .i64 11, .int .i64 41, .int .i64 1, .int .i64 5, .int .i64 41, .int .i64 2, .int .i64 3, .int .i64 50, .int .i64 1, .int .i64 6, .int .i64 52, .int .i64 2, .int .i64 2, .int .i64 80, .int .i64 1, .int .i64 1] 78 (0, 0)) := (by have := heap_alloc_new (w1.alloc (.cells #[.int .i64 r1, .int .i64 r2, .int .i64 r3, .int .i64 r4, .int .i64 r5] 59)) (.cells #[.int .i64 12, .int .i64 1, .int .i64 11, .int .i64 41, .int .i64 1, .int .i64 5, .int .i64 41, .int .i64 2, .int .i64 3, .int .i64 50, .int .i64 1, .int .i64 6, .int .i64 52, .int .i64 2, .int .i64 2, .int .i64 80, .int .i64 1, .int .i64 1] 78); rw [World.size_alloc] at this; exact this))
  generalize ((w1.alloc (.cells #[.int .i64 r1, .int .i64 r2, .int .i64 r3, .int .i64 r4, .int .i64 r5] 59)).alloc (.cells #[.int .i64 12, .int .i64 1, .int .i64 11, .int .i64 41, .int .i64 1, .int .i64 5, .int .i64 41, .int .i64 2, .int .i64 3, .int .i64 50, .int .i64 1, .int .i64 6, .int .i64 52, .int .i64 2, .int .i64 2, .int .i64 80, .int .i64 1, .int .i64 1] 78)) = W2 at *
  generalize w1.heap.size + 1 = B at *
  have z0 : W2.cell? ⟨B, 0, none⟩ = some (.int .i64 12) := blkCell hX 0
  have z1 : W2.cell? ⟨B, 1, none⟩ = some (.int .i64 1) := blkCell hX 1
  have z2 : W2.cell? ⟨B, 2, none⟩ = some (.int .i64 11) := blkCell hX 2
  have z3 : W2.cell? ⟨B, 3, none⟩ = some (.int .i64 41) := blkCell hX 3
  have z4 : W2.cell? ⟨B, 4, none⟩ = some (.int .i64 1) := blkCell hX 4
  have z5 : W2.cell? ⟨B, 5, none⟩ = some (.int .i64 5) := blkCell hX 5
  have z6 : W2.cell? ⟨B, 6, none⟩ = some (.int .i64 41) := blkCell hX 6
  have z7 : W2.cell? ⟨B, 7, none⟩ = some (.int .i64 2) := blkCell hX 7
  have z8 : W2.cell? ⟨B, 8, none⟩ = some (.int .i64 3) := blkCell hX 8
  have z9 : W2.cell? ⟨B, 9, none⟩ = some (.int .i64 50) := blkCell hX 9
  have z10 : W2.cell? ⟨B, 10, none⟩ = some (.int .i64 1) := blkCell hX 10
  have z11 : W2.cell? ⟨B, 11, none⟩ = some (.int .i64 6) := blkCell hX 11
  have z12 : W2.cell? ⟨B, 12, none⟩ = some (.int .i64 52) := blkCell hX 12
  have z13 : W2.cell? ⟨B, 13, none⟩ = some (.int .i64 2) := blkCell hX 13
  have z14 : W2.cell? ⟨B, 14, none⟩ = some (.int .i64 2) := blkCell hX 14
  have z15 : W2.cell? ⟨B, 15, none⟩ = some (.int .i64 80) := blkCell hX 15
  have z16 : W2.cell? ⟨B, 16, none⟩ = some (.int .i64 1) := blkCell hX 16
  have z17 : W2.cell? ⟨B, 17, none⟩ = some (.int .i64 1) := blkCell hX 17
  clear hX hb1 HS
  go_wp2
  go_loop [9] (fun i => ∃ k : Nat, k ≤ 3 ∧ i = .int .i64 k) (fun i => 4 - (intOf i).toNat)
  case atStart => exact ⟨0, by omega, rfl⟩
  case round =>
    obtain ⟨k, hk, rfl⟩ := hrel
    obtain rfl | rfl | rfl | rfl : k = 0 ∨ k = 1 ∨ k = 2 ∨ k = 3 := by omega
    all_goals go_wp2
    all_goals first
      | (go_ret2; exact ⟨rfl, hB⟩)
      | exact ⟨⟨1, by omega, rfl⟩, by simp [intOf]⟩
      | exact ⟨⟨2, by omega, rfl⟩, by simp [intOf]⟩
      | exact ⟨⟨3, by omega, rfl⟩, by simp [intOf]⟩
      | exact ⟨⟨4, by omega, rfl⟩, by simp [intOf]⟩
      | exact ⟨⟨5, by omega, rfl⟩, by simp [intOf]⟩

set_option maxHeartbeats 3200000 in
theorem rsize_row4 (r1 r2 r3 r4 r5 : Int) (h : yardref17_shapeOf.f 20 52 2 = some (r1, r2, r3, r4, r5, false)) (w : World) : Calls Try.prog 23 #[.int .i64 52, .int .i64 2] w (SizeP 2 true w) := by
  have HS := Lib.hid (fun w => yardref17_shapeOf.calls 20 52 2 r1 r2 r3 r4 r5 false w h)
  clear h
  go_enter Try.func23, Try.ntmps23
  go_wp2_with (go_at_call 36; refine (HS.out _).mono ?_; rintro e w1 ⟨rfl, hb1⟩; have hB := (hb1.alloc hb1.size (.cells #[.int .i64 r1, .int .i64 r2, .int .i64 r3, .int .i64 r4, .int .i64 r5] 59)).alloc (by rw [World.size_alloc]; exact Nat.le_succ_of_le hb1.size) (.cells #[.int .i64 12, .int .i64 1, .int .i64 11, .int .i64 41, .int .i64 1, .int .i64 5, .int .i64 41, .int .i64 2, .int .i64 3, .int .i64 50, .int .i64 1, .int .i64 6, .int .i64 52, .int .i64 2, .int .i64 2, .int .i64 80, .int .i64 1, .int .i64 1] 78); have hX : ((w1.alloc (.cells #[.int .i64 r1, .int .i64 r2, .int .i64 r3, .int .i64 r4, .int .i64 r5] 59)).alloc (.cells #[.int .i64 12, .int .i64 1, .int .i64 11, .int .i64 41, .int .i64 1, .int .i64 5, .int .i64 41, .int .i64 2, .int .i64 3, .int .i64 50, .int .i64 1, .int .i64 6, .int .i64 52, .int .i64 2, .int .i64 2, .int .i64 80, .int .i64 1, .int .i64 1] 78)).heap[w1.heap.size + 1]? = some (.cells #[.int .i64 12, .int .i64 1, .int .i64 11, .int .i64 41, .int .i64 1, .int .i64 5, .int .i64 41, .int .i64 2, .int .i64 3, .int .i64 50, .int .i64 1, .int .i64 6, .int .i64 52, .int .i64 2, .int .i64 2, .int .i64 80, .int .i64 1, .int .i64 1] 78 (0, 0)) := (by have := heap_alloc_new (w1.alloc (.cells #[.int .i64 r1, .int .i64 r2, .int .i64 r3, .int .i64 r4, .int .i64 r5] 59)) (.cells #[.int .i64 12, .int .i64 1, .int .i64 11, .int .i64 41, .int .i64 1, .int .i64 5, .int .i64 41, .int .i64 2, .int .i64 3, .int .i64 50, .int .i64 1, .int .i64 6, .int .i64 52, .int .i64 2, .int .i64 2, .int .i64 80, .int .i64 1, .int .i64 1] 78); rw [World.size_alloc] at this; exact this))
  generalize ((w1.alloc (.cells #[.int .i64 r1, .int .i64 r2, .int .i64 r3, .int .i64 r4, .int .i64 r5] 59)).alloc (.cells #[.int .i64 12, .int .i64 1, .int .i64 11, .int .i64 41, .int .i64 1, .int .i64 5, .int .i64 41, .int .i64 2, .int .i64 3, .int .i64 50, .int .i64 1, .int .i64 6, .int .i64 52, .int .i64 2, .int .i64 2, .int .i64 80, .int .i64 1, .int .i64 1] 78)) = W2 at *
  generalize w1.heap.size + 1 = B at *
  have z0 : W2.cell? ⟨B, 0, none⟩ = some (.int .i64 12) := blkCell hX 0
  have z1 : W2.cell? ⟨B, 1, none⟩ = some (.int .i64 1) := blkCell hX 1
  have z2 : W2.cell? ⟨B, 2, none⟩ = some (.int .i64 11) := blkCell hX 2
  have z3 : W2.cell? ⟨B, 3, none⟩ = some (.int .i64 41) := blkCell hX 3
  have z4 : W2.cell? ⟨B, 4, none⟩ = some (.int .i64 1) := blkCell hX 4
  have z5 : W2.cell? ⟨B, 5, none⟩ = some (.int .i64 5) := blkCell hX 5
  have z6 : W2.cell? ⟨B, 6, none⟩ = some (.int .i64 41) := blkCell hX 6
  have z7 : W2.cell? ⟨B, 7, none⟩ = some (.int .i64 2) := blkCell hX 7
  have z8 : W2.cell? ⟨B, 8, none⟩ = some (.int .i64 3) := blkCell hX 8
  have z9 : W2.cell? ⟨B, 9, none⟩ = some (.int .i64 50) := blkCell hX 9
  have z10 : W2.cell? ⟨B, 10, none⟩ = some (.int .i64 1) := blkCell hX 10
  have z11 : W2.cell? ⟨B, 11, none⟩ = some (.int .i64 6) := blkCell hX 11
  have z12 : W2.cell? ⟨B, 12, none⟩ = some (.int .i64 52) := blkCell hX 12
  have z13 : W2.cell? ⟨B, 13, none⟩ = some (.int .i64 2) := blkCell hX 13
  have z14 : W2.cell? ⟨B, 14, none⟩ = some (.int .i64 2) := blkCell hX 14
  have z15 : W2.cell? ⟨B, 15, none⟩ = some (.int .i64 80) := blkCell hX 15
  have z16 : W2.cell? ⟨B, 16, none⟩ = some (.int .i64 1) := blkCell hX 16
  have z17 : W2.cell? ⟨B, 17, none⟩ = some (.int .i64 1) := blkCell hX 17
  clear hX hb1 HS
  go_wp2
  go_loop [9] (fun i => ∃ k : Nat, k ≤ 4 ∧ i = .int .i64 k) (fun i => 5 - (intOf i).toNat)
  case atStart => exact ⟨0, by omega, rfl⟩
  case round =>
    obtain ⟨k, hk, rfl⟩ := hrel
    obtain rfl | rfl | rfl | rfl | rfl : k = 0 ∨ k = 1 ∨ k = 2 ∨ k = 3 ∨ k = 4 := by omega
    all_goals go_wp2
    all_goals first
      | (go_ret2; exact ⟨rfl, hB⟩)
      | exact ⟨⟨1, by omega, rfl⟩, by simp [intOf]⟩
      | exact ⟨⟨2, by omega, rfl⟩, by simp [intOf]⟩
      | exact ⟨⟨3, by omega, rfl⟩, by simp [intOf]⟩
      | exact ⟨⟨4, by omega, rfl⟩, by simp [intOf]⟩
      | exact ⟨⟨5, by omega, rfl⟩, by simp [intOf]⟩

set_option maxHeartbeats 3200000 in
theorem rsize_row5 (r1 r2 r3 r4 r5 : Int) (h : yardref17_shapeOf.f 20 80 1 = some (r1, r2, r3, r4, r5, false)) (w : World) : Calls Try.prog 23 #[.int .i64 80, .int .i64 1] w (SizeP 1 true w) := by
  have HS := Lib.hid (fun w => yardref17_shapeOf.calls 20 80 1 r1 r2 r3 r4 r5 false w h)
  clear h
  go_enter Try.func23, Try.ntmps23
  go_wp2_with (go_at_call 36; refine (HS.out _).mono ?_; rintro e w1 ⟨rfl, hb1⟩; have hB := (hb1.alloc hb1.size (.cells #[.int .i64 r1, .int .i64 r2, .int .i64 r3, .int .i64 r4, .int .i64 r5] 59)).alloc (by rw [World.size_alloc]; exact Nat.le_succ_of_le hb1.size) (.cells #[.int .i64 12, .int .i64 1, .int .i64 11, .int .i64 41, .int .i64 1, .int .i64 5, .int .i64 41, .int .i64 2, .int .i64 3, .int .i64 50, .int .i64 1, .int .i64 6, .int .i64 52, .int .i64 2, .int .i64 2, .int .i64 80, .int .i64 1, .int .i64 1] 78); have hX : ((w1.alloc (.cells #[.int .i64 r1, .int .i64 r2, .int .i64 r3, .int .i64 r4, .int .i64 r5] 59)).alloc (.cells #[.int .i64 12, .int .i64 1, .int .i64 11, .int .i64 41, .int .i64 1, .int .i64 5, .int .i64 41, .int .i64 2, .int .i64 3, .int .i64 50, .int .i64 1, .int .i64 6, .int .i64 52, .int .i64 2, .int .i64 2, .int .i64 80, .int .i64 1, .int .i64 1] 78)).heap[w1.heap.size + 1]? = some (.cells #[.int .i64 12, .int .i64 1, .int .i64 11, .int .i64 41, .int .i64 1, .int .i64 5, .int .i64 41, .int .i64 2, .int .i64 3, .int .i64 50, .int .i64 1, .int .i64 6, .int .i64 52, .int .i64 2, .int .i64 2, .int .i64 80, .int .i64 1, .int .i64 1] 78 (0, 0)) := (by have := heap_alloc_new (w1.alloc (.cells #[.int .i64 r1, .int .i64 r2, .int .i64 r3, .int .i64 r4, .int .i64 r5] 59)) (.cells #[.int .i64 12, .int .i64 1, .int .i64 11, .int .i64 41, .int .i64 1, .int .i64 5, .int .i64 41, .int .i64 2, .int .i64 3, .int .i64 50, .int .i64 1, .int .i64 6, .int .i64 52, .int .i64 2, .int .i64 2, .int .i64 80, .int .i64 1, .int .i64 1] 78); rw [World.size_alloc] at this; exact this))
  generalize ((w1.alloc (.cells #[.int .i64 r1, .int .i64 r2, .int .i64 r3, .int .i64 r4, .int .i64 r5] 59)).alloc (.cells #[.int .i64 12, .int .i64 1, .int .i64 11, .int .i64 41, .int .i64 1, .int .i64 5, .int .i64 41, .int .i64 2, .int .i64 3, .int .i64 50, .int .i64 1, .int .i64 6, .int .i64 52, .int .i64 2, .int .i64 2, .int .i64 80, .int .i64 1, .int .i64 1] 78)) = W2 at *
  generalize w1.heap.size + 1 = B at *
  have z0 : W2.cell? ⟨B, 0, none⟩ = some (.int .i64 12) := blkCell hX 0
  have z1 : W2.cell? ⟨B, 1, none⟩ = some (.int .i64 1) := blkCell hX 1
  have z2 : W2.cell? ⟨B, 2, none⟩ = some (.int .i64 11) := blkCell hX 2
  have z3 : W2.cell? ⟨B, 3, none⟩ = some (.int .i64 41) := blkCell hX 3
  have z4 : W2.cell? ⟨B, 4, none⟩ = some (.int .i64 1) := blkCell hX 4
  have z5 : W2.cell? ⟨B, 5, none⟩ = some (.int .i64 5) := blkCell hX 5
  have z6 : W2.cell? ⟨B, 6, none⟩ = some (.int .i64 41) := blkCell hX 6
  have z7 : W2.cell? ⟨B, 7, none⟩ = some (.int .i64 2) := blkCell hX 7
  have z8 : W2.cell? ⟨B, 8, none⟩ = some (.int .i64 3) := blkCell hX 8
  have z9 : W2.cell? ⟨B, 9, none⟩ = some (.int .i64 50) := blkCell hX 9
  have z10 : W2.cell? ⟨B, 10, none⟩ = some (.int .i64 1) := blkCell hX 10
  have z11 : W2.cell? ⟨B, 11, none⟩ = some (.int .i64 6) := blkCell hX 11
  have z12 : W2.cell? ⟨B, 12, none⟩ = some (.int .i64 52) := blkCell hX 12
  have z13 : W2.cell? ⟨B, 13, none⟩ = some (.int .i64 2) := blkCell hX 13
  have z14 : W2.cell? ⟨B, 14, none⟩ = some (.int .i64 2) := blkCell hX 14
  have z15 : W2.cell? ⟨B, 15, none⟩ = some (.int .i64 80) := blkCell hX 15
  have z16 : W2.cell? ⟨B, 16, none⟩ = some (.int .i64 1) := blkCell hX 16
  have z17 : W2.cell? ⟨B, 17, none⟩ = some (.int .i64 1) := blkCell hX 17
  clear hX hb1 HS
  go_wp2
  go_loop [9] (fun i => ∃ k : Nat, k ≤ 5 ∧ i = .int .i64 k) (fun i => 6 - (intOf i).toNat)
  case atStart => exact ⟨0, by omega, rfl⟩
  case round =>
    obtain ⟨k, hk, rfl⟩ := hrel
    obtain rfl | rfl | rfl | rfl | rfl | rfl : k = 0 ∨ k = 1 ∨ k = 2 ∨ k = 3 ∨ k = 4 ∨ k = 5 := by omega
    all_goals go_wp2
    all_goals first
      | (go_ret2; exact ⟨rfl, hB⟩)
      | exact ⟨⟨1, by omega, rfl⟩, by simp [intOf]⟩
      | exact ⟨⟨2, by omega, rfl⟩, by simp [intOf]⟩
      | exact ⟨⟨3, by omega, rfl⟩, by simp [intOf]⟩
      | exact ⟨⟨4, by omega, rfl⟩, by simp [intOf]⟩
      | exact ⟨⟨5, by omega, rfl⟩, by simp [intOf]⟩

set_option maxHeartbeats 3200000 in
theorem rsize_none (g v r1 r2 r3 r4 r5 : Int) (h : yardref17_shapeOf.f 20 g v = some (r1, r2, r3, r4, r5, false)) (hn : rowsV g v = (0, false)) (w : World) : Calls Try.prog 23 #[.int .i64 g, .int .i64 v] w (SizeP 0 false w) := by
  have HS := Lib.hid (fun w => yardref17_shapeOf.calls 20 g v r1 r2 r3 r4 r5 false w h)
  clear h
  go_enter Try.func23, Try.ntmps23
  go_wp2_with (go_at_call 36; refine (HS.out _).mono ?_; rintro e w1 ⟨rfl, hb1⟩; have hB := (hb1.alloc hb1.size (.cells #[.int .i64 r1, .int .i64 r2, .int .i64 r3, .int .i64 r4, .int .i64 r5] 59)).alloc (by rw [World.size_alloc]; exact Nat.le_succ_of_le hb1.size) (.cells #[.int .i64 12, .int .i64 1, .int .i64 11, .int .i64 41, .int .i64 1, .int .i64 5, .int .i64 41, .int .i64 2, .int .i64 3, .int .i64 50, .int .i64 1, .int .i64 6, .int .i64 52, .int .i64 2, .int .i64 2, .int .i64 80, .int .i64 1, .int .i64 1] 78); have hX : ((w1.alloc (.cells #[.int .i64 r1, .int .i64 r2, .int .i64 r3, .int .i64 r4, .int .i64 r5] 59)).alloc (.cells #[.int .i64 12, .int .i64 1, .int .i64 11, .int .i64 41, .int .i64 1, .int .i64 5, .int .i64 41, .int .i64 2, .int .i64 3, .int .i64 50, .int .i64 1, .int .i64 6, .int .i64 52, .int .i64 2, .int .i64 2, .int .i64 80, .int .i64 1, .int .i64 1] 78)).heap[w1.heap.size + 1]? = some (.cells #[.int .i64 12, .int .i64 1, .int .i64 11, .int .i64 41, .int .i64 1, .int .i64 5, .int .i64 41, .int .i64 2, .int .i64 3, .int .i64 50, .int .i64 1, .int .i64 6, .int .i64 52, .int .i64 2, .int .i64 2, .int .i64 80, .int .i64 1, .int .i64 1] 78 (0, 0)) := (by have := heap_alloc_new (w1.alloc (.cells #[.int .i64 r1, .int .i64 r2, .int .i64 r3, .int .i64 r4, .int .i64 r5] 59)) (.cells #[.int .i64 12, .int .i64 1, .int .i64 11, .int .i64 41, .int .i64 1, .int .i64 5, .int .i64 41, .int .i64 2, .int .i64 3, .int .i64 50, .int .i64 1, .int .i64 6, .int .i64 52, .int .i64 2, .int .i64 2, .int .i64 80, .int .i64 1, .int .i64 1] 78); rw [World.size_alloc] at this; exact this))
  generalize ((w1.alloc (.cells #[.int .i64 r1, .int .i64 r2, .int .i64 r3, .int .i64 r4, .int .i64 r5] 59)).alloc (.cells #[.int .i64 12, .int .i64 1, .int .i64 11, .int .i64 41, .int .i64 1, .int .i64 5, .int .i64 41, .int .i64 2, .int .i64 3, .int .i64 50, .int .i64 1, .int .i64 6, .int .i64 52, .int .i64 2, .int .i64 2, .int .i64 80, .int .i64 1, .int .i64 1] 78)) = W2 at *
  generalize w1.heap.size + 1 = B at *
  have z0 : W2.cell? ⟨B, 0, none⟩ = some (.int .i64 12) := blkCell hX 0
  have z1 : W2.cell? ⟨B, 1, none⟩ = some (.int .i64 1) := blkCell hX 1
  have z2 : W2.cell? ⟨B, 2, none⟩ = some (.int .i64 11) := blkCell hX 2
  have z3 : W2.cell? ⟨B, 3, none⟩ = some (.int .i64 41) := blkCell hX 3
  have z4 : W2.cell? ⟨B, 4, none⟩ = some (.int .i64 1) := blkCell hX 4
  have z5 : W2.cell? ⟨B, 5, none⟩ = some (.int .i64 5) := blkCell hX 5
  have z6 : W2.cell? ⟨B, 6, none⟩ = some (.int .i64 41) := blkCell hX 6
  have z7 : W2.cell? ⟨B, 7, none⟩ = some (.int .i64 2) := blkCell hX 7
  have z8 : W2.cell? ⟨B, 8, none⟩ = some (.int .i64 3) := blkCell hX 8
  have z9 : W2.cell? ⟨B, 9, none⟩ = some (.int .i64 50) := blkCell hX 9
  have z10 : W2.cell? ⟨B, 10, none⟩ = some (.int .i64 1) := blkCell hX 10
  have z11 : W2.cell? ⟨B, 11, none⟩ = some (.int .i64 6) := blkCell hX 11
  have z12 : W2.cell? ⟨B, 12, none⟩ = some (.int .i64 52) := blkCell hX 12
  have z13 : W2.cell? ⟨B, 13, none⟩ = some (.int .i64 2) := blkCell hX 13
  have z14 : W2.cell? ⟨B, 14, none⟩ = some (.int .i64 2) := blkCell hX 14
  have z15 : W2.cell? ⟨B, 15, none⟩ = some (.int .i64 80) := blkCell hX 15
  have z16 : W2.cell? ⟨B, 16, none⟩ = some (.int .i64 1) := blkCell hX 16
  have z17 : W2.cell? ⟨B, 17, none⟩ = some (.int .i64 1) := blkCell hX 17
  clear hX hb1 HS
  go_wp2
  go_loop [9] (fun i => ∃ k : Nat, k ≤ 6 ∧ i = .int .i64 k) (fun i => 7 - (intOf i).toNat)
  case atStart => exact ⟨0, by omega, rfl⟩
  case round =>
    obtain ⟨k, hk, rfl⟩ := hrel
    obtain rfl | hk6 : k = 6 ∨ k < 6 := by omega
    · go_wp2
      go_ret2
      exact ⟨rfl, hB⟩
    · have key : ∀ (a b : Int), (k = 0 ∧ a = 12 ∧ b = 1) ∨ (k = 1 ∧ a = 41 ∧ b = 1) ∨ (k = 2 ∧ a = 41 ∧ b = 2) ∨ (k = 3 ∧ a = 50 ∧ b = 1) ∨ (k = 4 ∧ a = 52 ∧ b = 2) ∨ (k = 5 ∧ a = 80 ∧ b = 1) → (a == g) = false ∨ ((a == g) = true ∧ (b == v) = false) := by
        intro a b hab
        by_cases c1 : a = g
        · right
          refine ⟨beq_iff_eq.2 c1, beq_eq_false_iff_ne.2 fun c2 => ?_⟩
          subst c1 c2
          rcases hab with ⟨-, rfl, rfl⟩ | ⟨-, rfl, rfl⟩ | ⟨-, rfl, rfl⟩ | ⟨-, rfl, rfl⟩ | ⟨-, rfl, rfl⟩ | ⟨-, rfl, rfl⟩ <;> revert hn <;> decide
        · exact .inl (beq_eq_false_iff_ne.2 c1)
      clear hn
      obtain rfl | rfl | rfl | rfl | rfl | rfl : k = 0 ∨ k = 1 ∨ k = 2 ∨ k = 3 ∨ k = 4 ∨ k = 5 := by omega
      · rcases key 12 1 (by simp) with e1 | ⟨e1, e2⟩
        all_goals
          clear key
          go_wp2
          exact ⟨⟨1, by omega, rfl⟩, by simp [intOf]⟩
      · rcases key 41 1 (by simp) with e1 | ⟨e1, e2⟩
        all_goals
          clear key
          go_wp2
          exact ⟨⟨2, by omega, rfl⟩, by simp [intOf]⟩
      · rcases key 41 2 (by simp) with e1 | ⟨e1, e2⟩
        all_goals
          clear key
          go_wp2
          exact ⟨⟨3, by omega, rfl⟩, by simp [intOf]⟩
      · rcases key 50 1 (by simp) with e1 | ⟨e1, e2⟩
        all_goals
          clear key
          go_wp2
          exact ⟨⟨4, by omega, rfl⟩, by simp [intOf]⟩
      · rcases key 52 2 (by simp) with e1 | ⟨e1, e2⟩
        all_goals
          clear key
          go_wp2
          exact ⟨⟨5, by omega, rfl⟩, by simp [intOf]⟩
      · rcases key 80 1 (by simp) with e1 | ⟨e1, e2⟩
        all_goals
          clear key
          go_wp2
          exact ⟨⟨6, by omega, rfl⟩, by simp [intOf]⟩

/-- What the document's Size tells. -/
def refSize (g v : Int) : Int × Bool :=
  match yardref17_shapeOf.f 20 g v with
  | some (r1, r2, r3, _, _, true) => (wrap64 (wrap64 (r1 + r2) + r3), true)
  | some _ => rowsV g v
  | none => (0, false)
theorem rsize_calls (g v r1 r2 r3 r4 r5 : Int) (ok : Bool) (h : yardref17_shapeOf.f 20 g v = some (r1, r2, r3, r4, r5, ok)) (w : World) : Calls Try.prog 23 #[.int .i64 g, .int .i64 v] w (SizeP (refSize g v).1 (refSize g v).2 w) := by
  cases ok
  case true =>
    have e : refSize g v = (wrap64 (wrap64 (r1 + r2) + r3), true) := by unfold refSize; rw [h]
    rw [e]
    exact rsize_ok g v r1 r2 r3 r4 r5 h w
  case false =>
    have e : refSize g v = rowsV g v := by unfold refSize; rw [h]
    rw [e]
    by_cases c0 : g = 12 ∧ v = 1
    · obtain ⟨rfl, rfl⟩ := c0; exact rsize_row0 r1 r2 r3 r4 r5 h w
    by_cases c1 : g = 41 ∧ v = 1
    · obtain ⟨rfl, rfl⟩ := c1; exact rsize_row1 r1 r2 r3 r4 r5 h w
    by_cases c2 : g = 41 ∧ v = 2
    · obtain ⟨rfl, rfl⟩ := c2; exact rsize_row2 r1 r2 r3 r4 r5 h w
    by_cases c3 : g = 50 ∧ v = 1
    · obtain ⟨rfl, rfl⟩ := c3; exact rsize_row3 r1 r2 r3 r4 r5 h w
    by_cases c4 : g = 52 ∧ v = 2
    · obtain ⟨rfl, rfl⟩ := c4; exact rsize_row4 r1 r2 r3 r4 r5 h w
    by_cases c5 : g = 80 ∧ v = 1
    · obtain ⟨rfl, rfl⟩ := c5; exact rsize_row5 r1 r2 r3 r4 r5 h w
    have e0 : rowsV g v = (0, false) := by unfold rowsV; rw [if_neg c0, if_neg c1, if_neg c2, if_neg c3, if_neg c4, if_neg c5]
    rw [e0]
    exact rsize_none g v r1 r2 r3 r4 r5 h e0 w
end Go.Proofs.Ytpchlljelbpanaa.Vari
