/- Contracts of head.Print, over this seat's translation. -/
import Derived.Test.YtgihcfkcghohnaaRead
import Derived.Test.YtgihcfkcghohnaaWrit
import Derived.Test.YtgihcfkcghohnaaMay
namespace Go.Proofs.Ytgihcfkcghohnaa.Head
open Go.RowKit Go.Proofs.Ytgihcfkcghohnaa.Sk Go.Proofs.Ytgihcfkcghohnaa.Num Go.Proofs.Ytgihcfkcghohnaa.Wire

theorem ranged_yes (q : Int) (w : World) (h : q = 0 ∨ q = 1) : Calls Try.prog 18 #[.int .i64 q] w fun e w' => e = .returned (.bool true) ∧ w = w' := by
  rcases h with rfl | rfl
  all_goals
    go_enter Try.func18, Try.ntmps18
    go_wp2
    go_ret
    exact ⟨rfl, rfl⟩
theorem ranged_no (q : Int) (w : World) (h : ¬ (q = 0 ∨ q = 1)) : Calls Try.prog 18 #[.int .i64 q] w fun e w' => e = .returned (.bool false) ∧ w = w' := by
  have h1 : (q == 0) = false := beq_eq_false_iff_ne.2 (by omega)
  have h2 : (q == 1) = false := beq_eq_false_iff_ne.2 (by omega)
  clear h
  go_enter Try.func18, Try.ntmps18
  go_wp2
  go_ret
  exact ⟨rfl, rfl⟩
/-- A header's bytes. -/
def Hdr.bytes (h : Hdr) : List Int :=
  [h.g, h.v, h.q] ++ if h.q = 0 ∨ h.q = 1 then leB (widthV h.q).1.toNat h.f ++ leB (widthV h.q).1.toNat h.l else leB (widthV h.q).1.toNat h.c
theorem widthV_cases (q : Int) : (widthV q).2.2 = false ∨ ((widthV q).2.2 = true ∧ (q = 6 ∧ (widthV q).1 = 0 ∨ 1 ≤ (widthV q).1) ∧ 0 ≤ (widthV q).1 ∧ (widthV q).1 ≤ 2 ∧ 0 ≤ q ∧ q ≤ 255 ∧ 0 ≤ (widthV q).2.1 ∧ (widthV q).2.1 ≤ 2 ∧ ((q = 0 ∨ q = 1) → 1 ≤ (widthV q).1)) := by
  unfold widthV
  repeat' split
  all_goals first | (left; rfl) | (right; refine ⟨rfl, ?_⟩; dsimp only; omega)
/-- What is behind a call of Print that makes bytes. -/
def PrintOk (h : Hdr) (w : World) (c : Col) (κ : Nat) (e : Ending) (w' : World) : Prop := ∃ A cap c', e = .returned (.tuple #[.slice A h.bytes.length cap, .nilIface]) ∧ Own u8 5 w' c' κ [] w.heap.size (.slice A h.bytes.length cap) h.bytes ∧ Ext [] w c w' c'
set_option maxHeartbeats 1600000 in
theorem print_ranged (h : Hdr) (w : World) (c : Col) (κ : Nat) (hm : h.may) (hr : h.q = 0 ∨ h.q = 1) :
    Calls Try.prog 8 #[h.val] w (PrintOk h w c κ) := by
  obtain ⟨g, v, q, f, l, n⟩ := h
  have hq := widthV_cases q
  obtain ⟨m1, m2, m3, m4, m5, m6⟩ := id hm
  simp only at m1 m2 m3 m4 m5 m6 hr
  rw [if_pos hr] at m6
  obtain ⟨m6, m7, m8, m9⟩ := m6
  rcases hq with hq | ⟨_, hq1, hq2, hq3, hq4, hq5, hq6, hq7, hq8⟩
  · rw [hq] at m1; cases m1
  have hq8 := hq8 hr
  unfold highV at m8
  have hf1 : fitsU (widthV q).1 f := ⟨by omega, by omega, m6, by omega⟩
  have hf2 : fitsU (widthV q).1 l := ⟨by omega, by omega, by omega, by omega⟩
  have hmay : ∀ w c, Calls Try.prog 9 #[(Hdr.mk g v q f l n).val] w fun e w' => ∃ c', e = .returned (.bool true) ∧ Ext [] w c w' c' := fun w c => (may_calls ⟨g, v, q, f, l, n⟩ w c 0).mono (fun e w' ⟨c', he, hx⟩ => ⟨c', by rw [he, decide_eq_true hm], hx⟩)
  have hwid := width_calls q
  rw [m1] at hwid
  have hb : Hdr.bytes ⟨g, v, q, f, l, n⟩ = ([] ++ [g, v, q] ++ leB (widthV q).1.toNat f) ++ leB (widthV q).1.toNat l := by simp [Hdr.bytes, if_pos hr]
  have hbl : (([] ++ [g, v, q] ++ leB (widthV q).1.toNat f) ++ leB (widthV q).1.toNat l).length ≤ 100 := by simp [leB_length]; omega
  unfold Hdr.val
  simp only [Hdr.val] at hmay
  generalize (widthV q).1 = k at *
  have HM := Lib.hid hmay
  have HW := Lib.hid hwid
  have HB := Lib.hid hb
  clear hmay hwid hb m1 m8 m9 hq1 hm
  have hE0 := Ext.alloc [] w c (.cells #[.int .i64 g, .int .i64 v, .int .i64 q, .int .i64 f, .int .i64 l, .int .i64 n] 23) (κ + 1)
  have hb0 := Bx.new w c (κ + 1) #[.int .i64 g, .int .i64 v, .int .i64 q, .int .i64 f, .int .i64 l, .int .i64 n] 23
  go_enter Try.func8, Try.ntmps8
  go_wp2_with (first
    | (go_at_call 14; refine (HW.out _).mono ?_; rintro e w' ⟨rfl, rfl⟩)
    | (go_at_call 9; refine (HM.out _ (cx c w.heap.size (κ + 1))).mono ?_; rintro e w1 ⟨c1, rfl, he1⟩; replace hb0 := hb0.ext he1 (by simp); replace hE0 := hE0.trans he1; clear he1; obtain ⟨k0, k1, k2, k3, k4, k5⟩ := hb0.six)
    | (go_at_call 16; refine (newWriter_calls w1 c1 κ).mono ?_; rintro e w2 ⟨gw, c2, rfl, hgw, hw2, he2⟩; replace hgw := Nat.le_trans hE0.size hgw; replace hb0 := hb0.ext he2 (by simp); replace hE0 := hE0.trans he2; clear he2; clear k0 k1 k2 k3 k4 k5; obtain ⟨k0, k1, k2, k3, k4, k5⟩ := hb0.six)
    | (go_at_call 17
       have hE3 := Ext.alloc [] w2 c2 (.cells #[.int .u8 g, .int .u8 v, .int .u8 q] 5) (κ + 2)
       have ho3 : Own u8 5 (w2.alloc (.cells #[.int .u8 g, .int .u8 v, .int .u8 q] 5)) (cx c2 w2.heap.size (κ + 2)) (κ + 2) [] w2.heap.size (.slice (some ⟨w2.heap.size, 0, none⟩) 3 3) [g, v, q] := Own.ints .u8 5 w2 c2 (κ + 2) [] [g, v, q] (by intro x hx; simp at hx; rcases hx with rfl | rfl | rfl <;> exact u8rng (by omega) (by omega)) (by simp)
       refine (wbytes_calls gw [] [g, v, q] _ _ _ κ [κ + 2] (hw2.ext hE3 (by simp)) (ho3.rd (by simp) (by simp)) (by simp)).mono ?_
       rintro e w3 ⟨c3, rfl, hw3, he3, hB3⟩
       replace hb0 := (hb0.ext hE3 (by simp)).ext he3 (by simp)
       replace hE0 := (hE0.trans hE3).later hgw hB3 he3.col
       clear hE3 ho3 he3 hB3 hw2 k0 k1 k2 k3 k4 k5
       obtain ⟨k0, k1, k2, k3, k4, k5⟩ := hb0.six)
    | (go_at_call 18; refine (ranged_yes q _ hr).mono ?_; rintro e w' ⟨rfl, rfl⟩)
    | (go_at_call 19
       have hw3' := hw3
       refine (wu_ok gw _ k f _ _ κ hw3' hf1 (by simp)).mono ?_
       rintro e w4 ⟨c4, rfl, hw4, he4, hB4⟩
       replace hb0 := hb0.ext he4 (by simp)
       replace hE0 := hE0.later hgw hB4 he4.col
       clear hw3 hw3' he4 hB4 k0 k1 k2 k3 k4 k5
       obtain ⟨k0, k1, k2, k3, k4, k5⟩ := hb0.six)
    | (go_at_call 19
       have hw4' := hw4
       refine (wu_ok gw _ k l _ _ κ hw4' hf2 (by simp [leB_length]; omega)).mono ?_
       rintro e w5 ⟨c5, rfl, hw5, he5, hB5⟩
       replace hb0 := hb0.ext he5 (by simp)
       replace hE0 := hE0.later hgw hB5 he5.col
       clear hw4 hw4' he5 hB5 k0 k1 k2 k3 k4 k5)
    | (go_at_call 20
       rw [← HB.out] at hw5
       refine (out_calls gw _ _ _ κ κ hw5 (by rw [HB.out]; omega)).mono ?_
       rintro e w6 ⟨A6, cap6, c6, rfl, ho6, he6⟩
       replace hE0' := hE0.size
       replace hE0 := hE0.trans he6))
  go_ret2
  exact ⟨_, _, _, rfl, ho6.base hE0', hE0⟩
set_option maxHeartbeats 1600000 in
theorem print_counted (h : Hdr) (w : World) (c : Col) (κ : Nat) (hm : h.may) (hr : ¬ (h.q = 0 ∨ h.q = 1)) (h6 : h.q ≠ 6) :
    Calls Try.prog 8 #[h.val] w (PrintOk h w c κ) := by
  obtain ⟨g, v, q, f, l, n⟩ := h
  have hq := widthV_cases q
  obtain ⟨m1, m2, m3, m4, m5, m6⟩ := id hm
  simp only at m1 m2 m3 m4 m5 m6 hr h6
  rw [if_neg hr, if_neg h6] at m6
  obtain ⟨m6, m7, m8, m9⟩ := m6
  rcases hq with hq | ⟨_, hq1, hq2, hq3, hq4, hq5, hq6, hq7, hq8⟩
  · rw [hq] at m1; cases m1
  have hk1 : 1 ≤ (widthV q).1 := by omega
  unfold highV at m9
  have hf1 : fitsU (widthV q).1 n := ⟨by omega, by omega, by omega, by omega⟩
  have hmay : ∀ w c, Calls Try.prog 9 #[(Hdr.mk g v q f l n).val] w fun e w' => ∃ c', e = .returned (.bool true) ∧ Ext [] w c w' c' := fun w c => (may_calls ⟨g, v, q, f, l, n⟩ w c 0).mono (fun e w' ⟨c', he, hx⟩ => ⟨c', by rw [he, decide_eq_true hm], hx⟩)
  have hwid := width_calls q
  rw [m1] at hwid
  have hb : Hdr.bytes ⟨g, v, q, f, l, n⟩ = [] ++ [g, v, q] ++ leB (widthV q).1.toNat n := by simp [Hdr.bytes, if_neg hr]
  have hbl : ([] ++ [g, v, q] ++ leB (widthV q).1.toNat n).length ≤ 100 := by simp [leB_length]; omega
  unfold Hdr.val
  simp only [Hdr.val] at hmay
  generalize (widthV q).1 = k at *
  have HM := Lib.hid hmay
  have HW := Lib.hid hwid
  have HB := Lib.hid hb
  clear hmay hwid hb m1 m6 m7 m9 hq1 hq8 hm h6
  have hE0 := Ext.alloc [] w c (.cells #[.int .i64 g, .int .i64 v, .int .i64 q, .int .i64 f, .int .i64 l, .int .i64 n] 23) (κ + 1)
  have hb0 := Bx.new w c (κ + 1) #[.int .i64 g, .int .i64 v, .int .i64 q, .int .i64 f, .int .i64 l, .int .i64 n] 23
  go_enter Try.func8, Try.ntmps8
  go_wp2_with (first
    | (go_at_call 14; refine (HW.out _).mono ?_; rintro e w' ⟨rfl, rfl⟩)
    | (go_at_call 9; refine (HM.out _ (cx c w.heap.size (κ + 1))).mono ?_; rintro e w1 ⟨c1, rfl, he1⟩; replace hb0 := hb0.ext he1 (by simp); replace hE0 := hE0.trans he1; clear he1; obtain ⟨k0, k1, k2, k3, k4, k5⟩ := hb0.six)
    | (go_at_call 16; refine (newWriter_calls w1 c1 κ).mono ?_; rintro e w2 ⟨gw, c2, rfl, hgw, hw2, he2⟩; replace hgw := Nat.le_trans hE0.size hgw; replace hb0 := hb0.ext he2 (by simp); replace hE0 := hE0.trans he2; clear he2; clear k0 k1 k2 k3 k4 k5; obtain ⟨k0, k1, k2, k3, k4, k5⟩ := hb0.six)
    | (go_at_call 17
       have hE3 := Ext.alloc [] w2 c2 (.cells #[.int .u8 g, .int .u8 v, .int .u8 q] 5) (κ + 2)
       have ho3 : Own u8 5 (w2.alloc (.cells #[.int .u8 g, .int .u8 v, .int .u8 q] 5)) (cx c2 w2.heap.size (κ + 2)) (κ + 2) [] w2.heap.size (.slice (some ⟨w2.heap.size, 0, none⟩) 3 3) [g, v, q] := Own.ints .u8 5 w2 c2 (κ + 2) [] [g, v, q] (by intro x hx; simp at hx; rcases hx with rfl | rfl | rfl <;> exact u8rng (by omega) (by omega)) (by simp)
       refine (wbytes_calls gw [] [g, v, q] _ _ _ κ [κ + 2] (hw2.ext hE3 (by simp)) (ho3.rd (by simp) (by simp)) (by simp)).mono ?_
       rintro e w3 ⟨c3, rfl, hw3, he3, hB3⟩
       replace hb0 := (hb0.ext hE3 (by simp)).ext he3 (by simp)
       replace hE0 := (hE0.trans hE3).later hgw hB3 he3.col
       clear hE3 ho3 he3 hB3 hw2 k0 k1 k2 k3 k4 k5
       obtain ⟨k0, k1, k2, k3, k4, k5⟩ := hb0.six)
    | (go_at_call 18; refine (ranged_no q _ hr).mono ?_; rintro e w' ⟨rfl, rfl⟩)
    | (go_at_call 19
       have hw3' := hw3
       refine (wu_ok gw _ k n _ _ κ hw3' hf1 (by simp)).mono ?_
       rintro e w4 ⟨c4, rfl, hw4, he4, hB4⟩
       replace hb0 := hb0.ext he4 (by simp)
       replace hE0 := hE0.later hgw hB4 he4.col
       clear hw3 hw3' he4 hB4 k0 k1 k2 k3 k4 k5)
    | (go_at_call 20
       rw [← HB.out] at hw4
       refine (out_calls gw _ _ _ κ κ hw4 (by rw [HB.out]; omega)).mono ?_
       rintro e w6 ⟨A6, cap6, c6, rfl, ho6, he6⟩
       replace hE0' := hE0.size
       replace hE0 := hE0.trans he6))
  go_ret2
  exact ⟨_, _, _, rfl, ho6.base hE0', hE0⟩
set_option maxHeartbeats 1600000 in
theorem print_all (h : Hdr) (w : World) (c : Col) (κ : Nat) (hm : h.may) (h6 : h.q = 6) :
    Calls Try.prog 8 #[h.val] w (PrintOk h w c κ) := by
  obtain ⟨g, v, q, f, l, n⟩ := h
  have hq := widthV_cases q
  obtain ⟨m1, m2, m3, m4, m5, m6⟩ := id hm
  simp only at m1 m2 m3 m4 m5 m6 h6
  subst h6
  rcases hq with hq | ⟨_, hq1, hq2, hq3, hq4, hq5, hq6, hq7, hq8⟩
  · rw [hq] at m1; cases m1
  have hmay : ∀ w c, Calls Try.prog 9 #[(Hdr.mk g v 6 f l n).val] w fun e w' => ∃ c', e = .returned (.bool true) ∧ Ext [] w c w' c' := fun w c => (may_calls ⟨g, v, 6, f, l, n⟩ w c 0).mono (fun e w' ⟨c', he, hx⟩ => ⟨c', by rw [he, decide_eq_true hm], hx⟩)
  have hwid := width_calls 6
  have e6 : widthV 6 = (0, 0, true) := rfl
  rw [e6] at hwid
  have hb : Hdr.bytes ⟨g, v, 6, f, l, n⟩ = [] ++ [g, v, 6] := by simp [Hdr.bytes, e6, leB]
  have hbl : ([] ++ [g, v, (6 : Int)]).length ≤ 100 := by simp
  unfold Hdr.val
  simp only [Hdr.val] at hmay
  have HM := Lib.hid hmay
  have HW := Lib.hid hwid
  have HB := Lib.hid hb
  clear hmay hwid hb m1 m6 hq1 hq2 hq3 hq4 hq5 hq6 hq7 hq8 hm e6
  have hE0 := Ext.alloc [] w c (.cells #[.int .i64 g, .int .i64 v, .int .i64 6, .int .i64 f, .int .i64 l, .int .i64 n] 23) (κ + 1)
  have hb0 := Bx.new w c (κ + 1) #[.int .i64 g, .int .i64 v, .int .i64 6, .int .i64 f, .int .i64 l, .int .i64 n] 23
  go_enter Try.func8, Try.ntmps8
  go_wp2_with (first
    | (go_at_call 14; refine (HW.out _).mono ?_; rintro e w' ⟨rfl, rfl⟩)
    | (go_at_call 9; refine (HM.out _ (cx c w.heap.size (κ + 1))).mono ?_; rintro e w1 ⟨c1, rfl, he1⟩; replace hb0 := hb0.ext he1 (by simp); replace hE0 := hE0.trans he1; clear he1; obtain ⟨k0, k1, k2, k3, k4, k5⟩ := hb0.six)
    | (go_at_call 16; refine (newWriter_calls w1 c1 κ).mono ?_; rintro e w2 ⟨gw, c2, rfl, hgw, hw2, he2⟩; replace hgw := Nat.le_trans hE0.size hgw; replace hb0 := hb0.ext he2 (by simp); replace hE0 := hE0.trans he2; clear he2; clear k0 k1 k2 k3 k4 k5; obtain ⟨k0, k1, k2, k3, k4, k5⟩ := hb0.six)
    | (go_at_call 17
       have hE3 := Ext.alloc [] w2 c2 (.cells #[.int .u8 g, .int .u8 v, .int .u8 6] 5) (κ + 2)
       have ho3 : Own u8 5 (w2.alloc (.cells #[.int .u8 g, .int .u8 v, .int .u8 6] 5)) (cx c2 w2.heap.size (κ + 2)) (κ + 2) [] w2.heap.size (.slice (some ⟨w2.heap.size, 0, none⟩) 3 3) [g, v, 6] := Own.ints .u8 5 w2 c2 (κ + 2) [] [g, v, 6] (by intro x hx; simp at hx; rcases hx with rfl | rfl | rfl <;> exact u8rng (by omega) (by omega)) (by simp)
       refine (wbytes_calls gw [] [g, v, 6] _ _ _ κ [κ + 2] (hw2.ext hE3 (by simp)) (ho3.rd (by simp) (by simp)) (by simp)).mono ?_
       rintro e w3 ⟨c3, rfl, hw3, he3, hB3⟩
       replace hb0 := (hb0.ext hE3 (by simp)).ext he3 (by simp)
       replace hE0 := (hE0.trans hE3).later hgw hB3 he3.col
       clear hE3 ho3 he3 hB3 hw2 k0 k1 k2 k3 k4 k5
       obtain ⟨k0, k1, k2, k3, k4, k5⟩ := hb0.six)
    | (go_at_call 18; refine (ranged_no 6 _ (by decide)).mono ?_; rintro e w' ⟨rfl, rfl⟩)
    | (go_at_call 20
       rw [← HB.out] at hw3
       refine (out_calls gw _ _ _ κ κ hw3 (by rw [HB.out]; omega)).mono ?_
       rintro e w6 ⟨A6, cap6, c6, rfl, ho6, he6⟩
       replace hE0' := hE0.size
       replace hE0 := hE0.trans he6))
  go_ret2
  exact ⟨_, _, _, rfl, ho6.base hE0', hE0⟩
theorem print_ok (h : Hdr) (w : World) (c : Col) (κ : Nat) (hm : h.may) : Calls Try.prog 8 #[h.val] w (PrintOk h w c κ) := by
  by_cases hr : h.q = 0 ∨ h.q = 1
  · exact print_ranged h w c κ hm hr
  · by_cases h6 : h.q = 6
    · exact print_all h w c κ hm h6
    · exact print_counted h w c κ hm hr h6
set_option maxHeartbeats 1600000 in
theorem print_bad (h : Hdr) (w : World) (c : Col) (κ : Nat) (hm : ¬ h.may) :
    Calls Try.prog 8 #[h.val] w fun e w' => ∃ v' c', e = .returned (.tuple #[.slice none 0 0, v']) ∧ EK w' c' [κ] (.fail ⟨#[104, 101, 97, 100]⟩ h.q (.code (if (widthV h.q).2.2 = true then 1 else 6))) v' ∧ Ext [] w c w' c' := by
  obtain ⟨g, v, q, f, l, n⟩ := h
  have hmay : ∀ w c, Calls Try.prog 9 #[(Hdr.mk g v q f l n).val] w fun e w' => ∃ c', e = .returned (.bool false) ∧ Ext [] w c w' c' := fun w c => (may_calls ⟨g, v, q, f, l, n⟩ w c 0).mono (fun e w' ⟨c', he, hx⟩ => ⟨c', by rw [he, decide_eq_false hm], hx⟩)
  have hwid := width_calls q
  unfold Hdr.val
  simp only [Hdr.val] at hmay
  have HM := Lib.hid hmay
  have hE0 := Ext.alloc [] w c (.cells #[.int .i64 g, .int .i64 v, .int .i64 q, .int .i64 f, .int .i64 l, .int .i64 n] 23) (κ + 1)
  have hb0 := Bx.new w c (κ + 1) #[.int .i64 g, .int .i64 v, .int .i64 q, .int .i64 f, .int .i64 l, .int .i64 n] 23
  clear hmay hm
  by_cases hk : (widthV q).2.2 = true
  · rw [hk] at hwid
    simp only [hk, if_true]
    generalize (widthV q).1 = k at *
    generalize (widthV q).2.1 = k' at *
    have HW := Lib.hid hwid
    clear hwid hk
    go_enter Try.func8, Try.ntmps8
    go_wp2_with (first
      | (go_at_call 14; refine (HW.out _).mono ?_; rintro e w' ⟨rfl, rfl⟩)
      | (go_at_call 9; refine (HM.out _ (cx c w.heap.size (κ + 1))).mono ?_; rintro e w1 ⟨c1, rfl, he1⟩; replace hb0 := hb0.ext he1 (by simp); replace hE0 := hE0.trans he1; clear he1; obtain ⟨k0, k1, k2, k3, k4, k5⟩ := hb0.six)
      | (go_at_call 15; refine (in_calls _ _ (.code 1) _ _ c1 [κ] κ (by simp) rfl).mono ?_; rintro e w3 ⟨v3, c3, rfl, ho, he⟩))
    go_ret2
    exact ⟨_, _, rfl, ho, hE0.trans he⟩
  · have hk' : (widthV q).2.2 = false := by simpa using hk
    rw [hk'] at hwid
    simp only [hk', Bool.false_eq_true, if_false]
    generalize (widthV q).1 = k at *
    generalize (widthV q).2.1 = k' at *
    have HW := Lib.hid hwid
    clear hwid hk hk'
    go_enter Try.func8, Try.ntmps8
    go_wp2_with (first
      | (go_at_call 14; refine (HW.out _).mono ?_; rintro e w' ⟨rfl, rfl⟩)
      | (go_at_call 15; refine (in_calls _ _ (.code 6) _ _ (cx c w.heap.size (κ + 1)) [κ] κ (by simp) rfl).mono ?_; rintro e w3 ⟨v3, c3, rfl, ho, he⟩))
    go_ret2
    exact ⟨_, _, rfl, ho, hE0.trans he⟩
end Go.Proofs.Ytgihcfkcghohnaa.Head
