/- Contracts of head.Parse where a header is read, over this seat's translation. -/
import Derived.Test.YtgihcfkcghohnaaPar2
namespace Go.Proofs.Ytgihcfkcghohnaa.Head
open Go.RowKit Go.Proofs.Ytgihcfkcghohnaa.Sk Go.Proofs.Ytgihcfkcghohnaa.Num Go.Proofs.Ytgihcfkcghohnaa.Wire

set_option maxHeartbeats 3200000 in
theorem parse_ok1 (b : List Int) (a g v q k k' : Int) (V : Value) (w : World) (c : Col) (S : List Nat) (κ : Nat) (hx : Rd u8 w c S V b) (hl : b.length ≤ 140737488355328) (h : At3 b a g v q) (hq : widthV q = (k, k', true)) (hk0 : 0 ≤ k) (hk1 : k ≤ 2) (bb : List Int) (hbb : b.drop (a + 3).toNat = bb) (x : Int) (hxx : le ((bb.drop (0 : Int).toNat).take k.toNat) = x) (y : Int) (hyy : le ((bb.drop (0 + k).toNat).take k.toNat) = y) (hr : q = 0 ∨ q = 1) (hn : 2 * k ≤ b.length - (a + 3)) (hm : (Hdr.mk g v q x y (y - x + 1)).may) :
    Calls Try.prog 11 #[V, .int .i64 a] w (ParseOk (Hdr.mk g v q x y (y - x + 1)) (a + 3 + (0 + k + k)) w c) := by
  obtain ⟨B, o, cap, rfl, hcap, hc0, hc1, hc2, ⟨hg0, hg1⟩, ⟨hv0, hv1⟩, hq0, hq1⟩ := h.cells hx
  obtain ⟨h0, h1, -, -, -⟩ := h
  have d1 : decide (a < 0) = false := decide_eq_false (by omega)
  have d2 : decide ((b.length : Int) < a) = false := decide_eq_false (by omega)
  have d3 : decide ((b.length : Int) - a < 3) = false := decide_eq_false (by omega)
  have hlB := World.block_lt_of_cell? w _ hc0
  simp only at hlB
  have hwid := width_calls q
  rw [hq] at hwid
  have HW := Lib.hid hwid
  obtain ⟨A1, hcut, hrd⟩ := cut_l (P := Try.prog) u8 24 5 _ _ Try.underlying24 info_u8 (some ⟨B, o, none⟩) b.length cap .i64 (a + 3) (b.drop (a + 3).toNat).length (by omega) (by rw [List.length_drop]; omega)
  have hbl : ((b.drop (a + 3).toNat).length : Int) = b.length - (a + 3) := by rw [List.length_drop]; omega
  rw [hbb] at hcut hrd hbl
  have HBB := Lib.hid hbb
  clear hwid hq hbb
  have hx0 : -1 ≤ x ∧ x ≤ 65536 := by
    rw [← hxx]; exact leBound hx hk1 HBB.out 0
  have HX := Lib.hid hxx
  clear hxx
  have hy0 : -1 ≤ y ∧ y ≤ 65536 := by
    rw [← hyy]; exact leBound hx hk1 HBB.out (0 + k)
  have HY := Lib.hid hyy
  clear hyy
  have hmay : ∀ w c, Calls Try.prog 9 #[(Hdr.mk g v q x y (y - x + 1)).val] w fun e w' => ∃ c', e = .returned (.bool true) ∧ Ext [] w c w' c' := fun w c => (may_calls ⟨g, v, q, x, y, (y - x + 1)⟩ w c 0).mono (fun e w' ⟨c', he, hx⟩ => ⟨c', by rw [he, decide_eq_true hm], hx⟩)
  simp only [Hdr.val] at hmay
  have HM := Lib.hid hmay
  clear hmay hm
  go_enter Try.func11, Try.ntmps11
  go_wp2
  go_region
  obtain ⟨c2, hbz, hbh, hE⟩ := Bx.two w c (κ + 1) (κ + 2) #[.int .i64 0, .int .i64 0, .int .i64 0, .int .i64 0, .int .i64 0, .int .i64 0] #[.int .i64 g, .int .i64 v, .int .i64 q, .int .i64 0, .int .i64 0, .int .i64 0] 23 23
  have hz : w.heap.size < w.heap.size + 1 := by omega
  generalize ((w.alloc (.cells #[.int .i64 0, .int .i64 0, .int .i64 0, .int .i64 0, .int .i64 0, .int .i64 0] 23)).alloc (.cells #[.int .i64 g, .int .i64 v, .int .i64 q, .int .i64 0, .int .i64 0, .int .i64 0] 23)).drew = W2 at *
  have hrd2 := hrd W2 c2 S b (hx.ext hE (by simp))
  rw [HBB.out] at hrd2
  clear hc0 hc1 hc2 hlB hrd hx
  obtain ⟨k0, k1, k2, k3, k4, k5⟩ := hbh.six
  go_wp2_with (first
    | (go_at_call 14; refine (HW.out _).mono ?_; rintro e w' ⟨rfl, rfl⟩)
    | (go_at_call 22
       refine (newReader_calls bb _ W2 c2 S (κ + 3) hrd2 (by omega)).mono ?_
       rintro e w3 ⟨gr, c3, rfl, hgr, hr3, he3⟩
       replace hgr := Nat.le_trans hE.size hgr
       replace hbz := hbz.ext he3 (by simp)
       replace hbh := hbh.ext he3 (by simp)
       replace hE := hE.trans he3
       clear he3 hrd2 k0 k1 k2 k3 k4 k5
       obtain ⟨⟨k0, k1, k2, k3, k4, k5⟩, f0, f1, f2, f3, f4, f5⟩ := hbh.six')
    | (go_at_call 23
       have hr3' := hr3
       have hN := num_ok gr bb 0 k _ _ (κ + 3) hr3' hk0 (by omega) (by omega)
       rw [HX.out] at hN
       refine hN.mono ?_
       rintro e w4 ⟨c4, rfl, hr4, he4, hB4⟩
       replace hbz := hbz.ext he4 (by simp)
       replace hbh := hbh.ext he4 (by simp)
       replace hE := hE.later hgr hB4 he4.col
       clear hN he4 hB4 hr3 hr3' k0 k1 k2 k3 k4 k5 f0 f1 f2 f3 f4 f5
       obtain ⟨⟨k0, k1, k2, k3, k4, k5⟩, f0, f1, f2, f3, f4, f5⟩ := hbh.six')
    | (go_at_call 18; refine (ranged_yes q _ hr).mono ?_; rintro e w' ⟨rfl, rfl⟩)
    | (go_at_call 23
       have hr4' := hr4
       obtain ⟨hbh', hES, hBS⟩ := hbh.set 3 (.int .i64 x)
       simp only [List.setIfInBounds_toArray, List.set_cons_succ, List.set_cons_zero] at hbh'
       clear hbh
       have hbh := hbh'
       clear hbh'
       replace hbz := hbz.ext hES (by simp)
       replace hE := hE.later (Nat.le_of_lt hz) hBS (fun _ _ => rfl)
       replace hr4 := hr4.ext hES (by simp)
       clear hES hBS
       have hN := num_ok gr bb (0 + k) k _ _ (κ + 3) hr4 hk0 (by omega) (by omega)
       rw [HY.out] at hN
       refine hN.mono ?_
       rintro e w5 ⟨c5, rfl, hr5, he5, hB5⟩
       replace hbz := hbz.ext he5 (by simp)
       replace hbh := hbh.ext he5 (by simp)
       replace hE := hE.later hgr hB5 he5.col
       clear hN he5 hB5 hr4 hr4' k0 k1 k2 k3 k4 k5 f0 f1 f2 f3 f4 f5
       obtain ⟨⟨k0, k1, k2, k3, k4, k5⟩, f0, f1, f2, f3, f4, f5⟩ := hbh.six')
    | (go_at_call 9
       obtain ⟨hbh', hES, hBS⟩ := hbh.set 4 (.int .i64 y)
       simp only [List.setIfInBounds_toArray, List.set_cons_succ, List.set_cons_zero] at hbh'
       clear hbh
       have hbh := hbh'
       clear hbh'
       replace hbz := hbz.ext hES (by simp)
       replace hE := hE.later (Nat.le_of_lt hz) hBS (fun _ _ => rfl)
       replace hr5 := hr5.ext hES (by simp)
       clear hES hBS
       obtain ⟨hbh', hES, hBS⟩ := hbh.set 5 (.int .i64 (y - x + 1))
       simp only [List.setIfInBounds_toArray, List.set_cons_succ, List.set_cons_zero] at hbh'
       clear hbh
       have hbh := hbh'
       clear hbh'
       replace hbz := hbz.ext hES (by simp)
       replace hE := hE.later (Nat.le_of_lt hz) hBS (fun _ _ => rfl)
       replace hr5 := hr5.ext hES (by simp)
       clear hES hBS
       refine (HM.out _ c5).mono ?_
       rintro e w6 ⟨c6, rfl, he6⟩
       replace hbz := hbz.ext he6 (by simp)
       replace hbh := hbh.ext he6 (by simp)
       replace hE := hE.trans he6
       replace hr5 := hr5.ext he6 (by simp)
       clear he6 k0 k1 k2 k3 k4 k5 f0 f1 f2 f3 f4 f5
       obtain ⟨⟨k0, k1, k2, k3, k4, k5⟩, f0, f1, f2, f3, f4, f5⟩ := hbh.six'))
  obtain ⟨⟨z0, z1, z2, z3, z4, z5⟩, y0, y1, y2, y3, y4, y5⟩ := hbz.six'
  go_region_with (go_at_call 24; refine (place_calls gr _ _ _ c6 _ (hr5.ext (Ext.refl [] _ _).drew (by simp))).mono ?_; rintro e w' ⟨rfl, rfl⟩)
  all_goals
    go_wp2
    obtain ⟨hbF, hE6, hB6⟩ := hbz.set6 (.int .i64 g) (.int .i64 v) (.int .i64 q) (.int .i64 x) (.int .i64 y) (.int .i64 (y - x + 1))
    have hEF := (hE.later (Nat.le_refl _) hB6 (fun _ _ => rfl)).drew
    generalize ((((((w6.setCell ⟨w.heap.size, 0, none⟩ (.int .i64 g)).setCell ⟨w.heap.size, 1, none⟩ (.int .i64 v)).setCell ⟨w.heap.size, 2, none⟩ (.int .i64 q)).setCell ⟨w.heap.size, 3, none⟩ (.int .i64 x)).setCell ⟨w.heap.size, 4, none⟩ (.int .i64 y)).setCell ⟨w.heap.size, 5, none⟩ (.int .i64 (y - x + 1))) = wF at *
    obtain ⟨q0, q1, q2, q3, q4, q5⟩ := hbF.six
    exact bodyPost_ret (v := .tuple #[.agg #[.int .i64 g, .int .i64 v, .int .i64 q, .int .i64 x, .int .i64 y, .int .i64 (y - x + 1)], .int .i64 (a + 3 + (0 + k + k)), .nilIface]) (by simp [results, Try.results11, go_sem, Act.put, q0, q1, q2, q3, q4, q5]; rw [i64id (x := a + 3) (by omega) (by omega), i64id (by omega) (by omega)]) rfl ⟨_, rfl, hEF⟩
set_option maxHeartbeats 3200000 in
theorem parse_ok2 (b : List Int) (a g v q k k' : Int) (V : Value) (w : World) (c : Col) (S : List Nat) (κ : Nat) (hx : Rd u8 w c S V b) (hl : b.length ≤ 140737488355328) (h : At3 b a g v q) (hq : widthV q = (k, k', true)) (hk0 : 0 ≤ k) (hk1 : k ≤ 2) (bb : List Int) (hbb : b.drop (a + 3).toNat = bb) (x : Int) (hxx : le ((bb.drop (0 : Int).toNat).take k.toNat) = x) (hr : ¬ (q = 0 ∨ q = 1)) (hn : k ≤ b.length - (a + 3)) (hm : (Hdr.mk g v q 0 0 x).may) :
    Calls Try.prog 11 #[V, .int .i64 a] w (ParseOk (Hdr.mk g v q 0 0 x) (a + 3 + (0 + k)) w c) := by
  obtain ⟨B, o, cap, rfl, hcap, hc0, hc1, hc2, ⟨hg0, hg1⟩, ⟨hv0, hv1⟩, hq0, hq1⟩ := h.cells hx
  obtain ⟨h0, h1, -, -, -⟩ := h
  have d1 : decide (a < 0) = false := decide_eq_false (by omega)
  have d2 : decide ((b.length : Int) < a) = false := decide_eq_false (by omega)
  have d3 : decide ((b.length : Int) - a < 3) = false := decide_eq_false (by omega)
  have hlB := World.block_lt_of_cell? w _ hc0
  simp only at hlB
  have hwid := width_calls q
  rw [hq] at hwid
  have HW := Lib.hid hwid
  obtain ⟨A1, hcut, hrd⟩ := cut_l (P := Try.prog) u8 24 5 _ _ Try.underlying24 info_u8 (some ⟨B, o, none⟩) b.length cap .i64 (a + 3) (b.drop (a + 3).toNat).length (by omega) (by rw [List.length_drop]; omega)
  have hbl : ((b.drop (a + 3).toNat).length : Int) = b.length - (a + 3) := by rw [List.length_drop]; omega
  rw [hbb] at hcut hrd hbl
  have HBB := Lib.hid hbb
  clear hwid hq hbb
  have hx0 : -1 ≤ x ∧ x ≤ 65536 := by
    rw [← hxx]; exact leBound hx hk1 HBB.out 0
  have HX := Lib.hid hxx
  clear hxx
  have hmay : ∀ w c, Calls Try.prog 9 #[(Hdr.mk g v q 0 0 x).val] w fun e w' => ∃ c', e = .returned (.bool true) ∧ Ext [] w c w' c' := fun w c => (may_calls ⟨g, v, q, 0, 0, x⟩ w c 0).mono (fun e w' ⟨c', he, hx⟩ => ⟨c', by rw [he, decide_eq_true hm], hx⟩)
  simp only [Hdr.val] at hmay
  have HM := Lib.hid hmay
  clear hmay hm
  go_enter Try.func11, Try.ntmps11
  go_wp2
  go_region
  obtain ⟨c2, hbz, hbh, hE⟩ := Bx.two w c (κ + 1) (κ + 2) #[.int .i64 0, .int .i64 0, .int .i64 0, .int .i64 0, .int .i64 0, .int .i64 0] #[.int .i64 g, .int .i64 v, .int .i64 q, .int .i64 0, .int .i64 0, .int .i64 0] 23 23
  have hz : w.heap.size < w.heap.size + 1 := by omega
  generalize ((w.alloc (.cells #[.int .i64 0, .int .i64 0, .int .i64 0, .int .i64 0, .int .i64 0, .int .i64 0] 23)).alloc (.cells #[.int .i64 g, .int .i64 v, .int .i64 q, .int .i64 0, .int .i64 0, .int .i64 0] 23)).drew = W2 at *
  have hrd2 := hrd W2 c2 S b (hx.ext hE (by simp))
  rw [HBB.out] at hrd2
  clear hc0 hc1 hc2 hlB hrd hx
  obtain ⟨k0, k1, k2, k3, k4, k5⟩ := hbh.six
  go_wp2_with (first
    | (go_at_call 14; refine (HW.out _).mono ?_; rintro e w' ⟨rfl, rfl⟩)
    | (go_at_call 22
       refine (newReader_calls bb _ W2 c2 S (κ + 3) hrd2 (by omega)).mono ?_
       rintro e w3 ⟨gr, c3, rfl, hgr, hr3, he3⟩
       replace hgr := Nat.le_trans hE.size hgr
       replace hbz := hbz.ext he3 (by simp)
       replace hbh := hbh.ext he3 (by simp)
       replace hE := hE.trans he3
       clear he3 hrd2 k0 k1 k2 k3 k4 k5
       obtain ⟨⟨k0, k1, k2, k3, k4, k5⟩, f0, f1, f2, f3, f4, f5⟩ := hbh.six')
    | (go_at_call 23
       have hr3' := hr3
       have hN := num_ok gr bb 0 k _ _ (κ + 3) hr3' hk0 (by omega) (by omega)
       rw [HX.out] at hN
       refine hN.mono ?_
       rintro e w4 ⟨c4, rfl, hr4, he4, hB4⟩
       replace hbz := hbz.ext he4 (by simp)
       replace hbh := hbh.ext he4 (by simp)
       replace hE := hE.later hgr hB4 he4.col
       clear hN he4 hB4 hr3 hr3' k0 k1 k2 k3 k4 k5 f0 f1 f2 f3 f4 f5
       obtain ⟨⟨k0, k1, k2, k3, k4, k5⟩, f0, f1, f2, f3, f4, f5⟩ := hbh.six')
    | (go_at_call 18; refine (ranged_no q _ hr).mono ?_; rintro e w' ⟨rfl, rfl⟩)
    | (go_at_call 9
       obtain ⟨hbh', hES, hBS⟩ := hbh.set 5 (.int .i64 x)
       simp only [List.setIfInBounds_toArray, List.set_cons_succ, List.set_cons_zero] at hbh'
       clear hbh
       have hbh := hbh'
       clear hbh'
       replace hbz := hbz.ext hES (by simp)
       replace hE := hE.later (Nat.le_of_lt hz) hBS (fun _ _ => rfl)
       replace hr4 := hr4.ext hES (by simp)
       clear hES hBS
       refine (HM.out _ c4).mono ?_
       rintro e w6 ⟨c6, rfl, he6⟩
       replace hbz := hbz.ext he6 (by simp)
       replace hbh := hbh.ext he6 (by simp)
       replace hE := hE.trans he6
       replace hr4 := hr4.ext he6 (by simp)
       clear he6 k0 k1 k2 k3 k4 k5 f0 f1 f2 f3 f4 f5
       obtain ⟨⟨k0, k1, k2, k3, k4, k5⟩, f0, f1, f2, f3, f4, f5⟩ := hbh.six'))
  obtain ⟨⟨z0, z1, z2, z3, z4, z5⟩, y0, y1, y2, y3, y4, y5⟩ := hbz.six'
  go_region_with (go_at_call 24; refine (place_calls gr _ _ _ c6 _ (hr4.ext (Ext.refl [] _ _).drew (by simp))).mono ?_; rintro e w' ⟨rfl, rfl⟩)
  all_goals
    go_wp2
    obtain ⟨hbF, hE6, hB6⟩ := hbz.set6 (.int .i64 g) (.int .i64 v) (.int .i64 q) (.int .i64 0) (.int .i64 0) (.int .i64 x)
    have hEF := (hE.later (Nat.le_refl _) hB6 (fun _ _ => rfl)).drew
    generalize ((((((w6.setCell ⟨w.heap.size, 0, none⟩ (.int .i64 g)).setCell ⟨w.heap.size, 1, none⟩ (.int .i64 v)).setCell ⟨w.heap.size, 2, none⟩ (.int .i64 q)).setCell ⟨w.heap.size, 3, none⟩ (.int .i64 0)).setCell ⟨w.heap.size, 4, none⟩ (.int .i64 0)).setCell ⟨w.heap.size, 5, none⟩ (.int .i64 x)) = wF at *
    obtain ⟨q0, q1, q2, q3, q4, q5⟩ := hbF.six
    exact bodyPost_ret (v := .tuple #[.agg #[.int .i64 g, .int .i64 v, .int .i64 q, .int .i64 0, .int .i64 0, .int .i64 x], .int .i64 (a + 3 + (0 + k)), .nilIface]) (by simp [results, Try.results11, go_sem, Act.put, q0, q1, q2, q3, q4, q5]; rw [i64id (x := a + 3) (by omega) (by omega), i64id (by omega) (by omega)]) rfl ⟨_, rfl, hEF⟩
end Go.Proofs.Ytgihcfkcghohnaa.Head
