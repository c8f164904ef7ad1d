/- Contracts of the statements' own Plain and first of chapter 17, over this seat's translation. -/
import Derived.Test.YtgihcfkcghohnaaPar4
import Derived.Laws.StructEq
namespace Go.Proofs.Ytgihcfkcghohnaa.Head
open Go.RowKit Go.Proofs.Ytgihcfkcghohnaa.Sk Go.Proofs.Ytgihcfkcghohnaa.Num Go.Proofs.Ytgihcfkcghohnaa.Wire

set_option maxHeartbeats 400000 in
theorem plain_calls (h : Hdr) (w : World) (c : Col) (κ : Nat) :
    Calls Try.prog 12 #[h.val] w fun e w' => ∃ c', e = .returned h.val ∧ Ext [] w c w' c' := by
  obtain ⟨g, v, q, f, l, n⟩ := h
  simp only [Hdr.val]
  obtain ⟨c2, hb1, hb2, hE⟩ := Bx.two w c κ κ #[.int .i64 g, .int .i64 v, .int .i64 q, .int .i64 f, .int .i64 l, .int .i64 n] #[.int .i64 g, .int .i64 v, .int .i64 q, .int .i64 f, .int .i64 l, .int .i64 n] 23 34
  go_enter Try.func12, Try.ntmps12
  go_wp2
  exact bodyPost_ret (v := .agg #[.int .i64 g, .int .i64 v, .int .i64 q, .int .i64 f, .int .i64 l, .int .i64 n]) (by simp [results, Try.results12, go_sem]) rfl ⟨_, rfl, ⟨hE.os, hE.tape, hE.output, hE.size, hE.col, hE.keep⟩⟩
theorem parse_ex1 : parseS [1, 2, 0, 3, 5] 0 = .ok (⟨1, 2, 0, 3, 5, 3⟩, 5) := by rfl
theorem parse_ex2 : parseS [60, 2, 6] 0 = .ok (⟨60, 2, 6, 0, 0, 0⟩, 3) := by rfl
set_option maxHeartbeats 1600000 in
theorem first_calls (w : World) (c : Col) : Calls Try.prog 7 #[] w fun e w' => ∃ c', e = .returned (.bool true) ∧ Ext [] w c w' c' := by
  have hE1 := Ext.alloc [] w c (.cells #[.int .u8 1, .int .u8 2, .int .u8 0, .int .u8 3, .int .u8 5] 5) 0
  have ho1 : Own u8 5 (w.alloc (.cells #[.int .u8 1, .int .u8 2, .int .u8 0, .int .u8 3, .int .u8 5] 5)) (cx c w.heap.size 0) 0 [] w.heap.size (.slice (some ⟨w.heap.size, 0, none⟩) 5 5) [1, 2, 0, 3, 5] := Own.ints .u8 5 w c 0 [] [1, 2, 0, 3, 5] (by decide) (by decide)
  go_enter Try.func7, Try.ntmps7
  go_wp2_with (first
    | (go_at_call 11
       have hE1' := hE1
       have hP := parse_calls [1, 2, 0, 3, 5] 0 _ _ _ [0] 0 (ho1.rd (S' := [0]) (by simp) (by simp)) (by simp) (by omega)
       unfold ParsePost at hP
       rw [parse_ex1] at hP
       refine hP.mono ?_
       rintro e w1 ⟨c1, rfl, he1⟩
       replace hE1' := hE1'.trans he1
       clear hP he1 hE1 ho1
       simp only [Hdr.val])
    | (go_at_call 11
       have hb1 := Bx.new w1 c1 0 #[.int .i64 1, .int .i64 2, .int .i64 0, .int .i64 3, .int .i64 5, .int .i64 3] 23
       have hEb := Ext.alloc [] w1 c1 (.cells #[.int .i64 1, .int .i64 2, .int .i64 0, .int .i64 3, .int .i64 5, .int .i64 3] 23) 0
       have ho2 : Own u8 5 ((w1.alloc (.cells #[.int .i64 1, .int .i64 2, .int .i64 0, .int .i64 3, .int .i64 5, .int .i64 3] 23)).alloc (.cells #[.int .u8 60, .int .u8 2, .int .u8 6] 5)) _ 0 [] _ (.slice (some ⟨_, 0, none⟩) 3 3) [60, 2, 6] := Own.ints .u8 5 (w1.alloc (.cells #[.int .i64 1, .int .i64 2, .int .i64 0, .int .i64 3, .int .i64 5, .int .i64 3] 23)) (cx c1 w1.heap.size 0) 0 [] [60, 2, 6] (by decide) (by decide)
       have hE2 := Ext.alloc [] (w1.alloc (.cells #[.int .i64 1, .int .i64 2, .int .i64 0, .int .i64 3, .int .i64 5, .int .i64 3] 23)) (cx c1 w1.heap.size 0) (.cells #[.int .u8 60, .int .u8 2, .int .u8 6] 5) 0
       rw [World.size_alloc] at ho2 hE2
       have hP := parse_calls [60, 2, 6] 0 _ _ _ [0] 0 (ho2.rd (S' := [0]) (by simp) (by simp)) (by simp) (by omega)
       unfold ParsePost at hP
       rw [parse_ex2] at hP
       refine hP.mono ?_
       rintro e w2 ⟨c2, rfl, he2⟩
       replace hb1 := (hb1.ext hE2 (by simp)).ext he2 (by simp)
       replace hE1' := ((hE1'.trans hEb).trans hE2).trans he2
       clear hP he2 hEb ho2 hE2
       obtain ⟨k0, k1, k2, k3, k4, k5⟩ := hb1.six
       have hz1 := blkLt hb1.1
       simp only [Hdr.val])
    | (go_at_call 12
       have hEc := Ext.alloc [] w2 c2 (.cells #[.int .i64 60, .int .i64 2, .int .i64 6, .int .i64 0, .int .i64 0, .int .i64 0] 23) 0
       have hbc := Bx.new w2 c2 0 #[.int .i64 60, .int .i64 2, .int .i64 6, .int .i64 0, .int .i64 0, .int .i64 0] 23
       have hQ := plain_calls ⟨1, 2, 0, 3, 5, 3⟩ (w2.alloc (.cells #[.int .i64 60, .int .i64 2, .int .i64 6, .int .i64 0, .int .i64 0, .int .i64 0] 23)) (cx c2 w2.heap.size 0) 0
       simp only [Hdr.val] at hQ
       refine hQ.mono ?_
       rintro e w3 ⟨c3, rfl, he3⟩
       clear hQ
       replace hbc := hbc.ext he3 (by simp)
       replace hE1' := (hE1'.trans hEc).trans he3
       clear he3 hEc
       obtain ⟨k0, k1, k2, k3, k4, k5⟩ := hbc.six))
  go_ret
  exact ⟨_, rfl, hE1'⟩
end Go.Proofs.Ytgihcfkcghohnaa.Head
