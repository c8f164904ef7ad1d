-- PRINTED BY print.sh 35421559b90ae4d0a3588c463048766b98c2df88dd9212a6774a882060cdf62d: not written by this session
import Derived.Test.YtpchlljelbpanaaPVariTablesx0
import Derived.Test.YtpchlljelbpanaaPVariTablesx1
namespace Go.Proofs.Ytpchlljelbpanaa.PVariTables
open Go.RowKit Go.Proofs.YtpchlljelbpanaaW.PrintWords Go.Proofs.YtpchlljelbpanaaW.PrintLast Go.Proofs.YtpchlljelbpanaaW.PrintMore
attribute [local go_sem] max2_int min2_int max_two min_two max_three min_three max_four min_four   -- for this text's walks alone
set_option linter.unusedVariables false
set_option linter.unusedSimpArgs false

/-! ### vari_shape: function 45 -/
mutual
def vari_shape.j0 : Nat → Int → Int → Int → Bool → Option (Int × Bool × Bool)
  | 0, _, _, _, _ => none
  | k + 1, x0, x1, x10, x11 => if x11 = true then (if x0 ≥ 0 then (some (0, false, decide (x1 ≥ 0))) else (some (0, false, false))) else (if x10 = 202 then (vari_shape.j1 k x10 (x10 == 202)) else (vari_shape.j1 k x10 (x10 == 402)))
def vari_shape.j1 : Nat → Int → Bool → Option (Int × Bool × Bool)
  | 0, _, _ => none
  | k + 1, x10, x23 => if x23 = true then (some (0, true, true)) else (if x10 = 2001 then (vari_shape.j2 k x10 (x10 == 2001)) else (if x10 = 2101 then (vari_shape.j2 k x10 (x10 == 2101)) else (if x10 = 2201 then (vari_shape.j2 k x10 (x10 == 2201)) else (if x10 = 3001 then (vari_shape.j2 k x10 (x10 == 3001)) else (if x10 = 4001 then (vari_shape.j2 k x10 (x10 == 4001)) else (vari_shape.j2 k x10 (x10 == 3201)))))))
def vari_shape.j2 : Nat → Int → Bool → Option (Int × Bool × Bool)
  | 0, _, _ => none
  | k + 1, x10, x26 => if x26 = true then (some (4, false, true)) else (if x10 = 2205 then (vari_shape.j3 k x10 (x10 == 2205)) else (vari_shape.j3 k x10 (x10 == 3203)))
def vari_shape.j3 : Nat → Int → Bool → Option (Int × Bool × Bool)
  | 0, _, _ => none
  | k + 1, x10, x33 => if x33 = true then (some (4, true, true)) else (if x10 = 3002 then (some (2, false, true)) else (if x10 = 4002 then (some (2, false, true)) else (if x10 = 3202 then (some (2, false, true)) else (some (0, false, false)))))
end
def vari_shape.f (k : Nat) (a0 : Int) (a1 : Int) : Option (Int × Bool × Bool) := if (wrap64 ((wrap64 (100 * a0)) + a1)) = 102 then (vari_shape.j0 k a0 a1 (wrap64 ((wrap64 (100 * a0)) + a1)) ((wrap64 ((wrap64 (100 * a0)) + a1)) == 102)) else (if (wrap64 ((wrap64 (100 * a0)) + a1)) = 1002 then (vari_shape.j0 k a0 a1 (wrap64 ((wrap64 (100 * a0)) + a1)) ((wrap64 ((wrap64 (100 * a0)) + a1)) == 1002)) else (if (wrap64 ((wrap64 (100 * a0)) + a1)) = 302 then (vari_shape.j0 k a0 a1 (wrap64 ((wrap64 (100 * a0)) + a1)) ((wrap64 ((wrap64 (100 * a0)) + a1)) == 302)) else (if (wrap64 ((wrap64 (100 * a0)) + a1)) = 201 then (vari_shape.j0 k a0 a1 (wrap64 ((wrap64 (100 * a0)) + a1)) ((wrap64 ((wrap64 (100 * a0)) + a1)) == 201)) else (vari_shape.j0 k a0 a1 (wrap64 ((wrap64 (100 * a0)) + a1)) ((wrap64 ((wrap64 (100 * a0)) + a1)) == 401)))))
theorem vari_shape.mono_l : ∀ k, (∀ y0 y1 y2 y3, LeO (vari_shape.j0 k y0 y1 y2 y3) (vari_shape.j0 (k + 1) y0 y1 y2 y3)) ∧ (∀ y0 y1, LeO (vari_shape.j1 k y0 y1) (vari_shape.j1 (k + 1) y0 y1)) ∧ (∀ y0 y1, LeO (vari_shape.j2 k y0 y1) (vari_shape.j2 (k + 1) y0 y1)) ∧ (∀ y0 y1, LeO (vari_shape.j3 k y0 y1) (vari_shape.j3 (k + 1) y0 y1))
  | 0 => ⟨fun _ _ _ _ r h => by simp [vari_shape.j0] at h, fun _ _ r h => by simp [vari_shape.j1] at h, fun _ _ r h => by simp [vari_shape.j2] at h, fun _ _ r h => by simp [vari_shape.j3] at h⟩
  | k + 1 => by
    obtain ⟨ih0, ih1, ih2, ih3⟩ := vari_shape.mono_l k
    refine ⟨?_, ?_, ?_, ?_⟩
    · intro y0 y1 y2 y3
      unfold vari_shape.j0
      repeat' first
      | (with_reducible exact ih0 _ _ _ _)
      | (with_reducible exact ih1 _ _)
      | (with_reducible exact ih2 _ _)
      | (with_reducible exact ih3 _ _)
      | (with_reducible exact LeO.refl _)
      | (with_reducible exact LeO.none _)
      | (with_reducible refine LeO.ite ?_ ?_)
      | (with_reducible refine LeO.bind ?_ (fun _ => ?_))
      | exact ih0 _ _ _ _
      | exact ih1 _ _
      | exact ih2 _ _
      | exact ih3 _ _
      | exact LeO.none _
      | refine LeO.ite ?_ ?_
      | refine LeO.bind ?_ (fun _ => ?_)
    · intro y0 y1
      unfold vari_shape.j1
      repeat' first
      | (with_reducible exact ih0 _ _ _ _)
      | (with_reducible exact ih1 _ _)
      | (with_reducible exact ih2 _ _)
      | (with_reducible exact ih3 _ _)
      | (with_reducible exact LeO.refl _)
      | (with_reducible exact LeO.none _)
      | (with_reducible refine LeO.ite ?_ ?_)
      | (with_reducible refine LeO.bind ?_ (fun _ => ?_))
      | exact ih0 _ _ _ _
      | exact ih1 _ _
      | exact ih2 _ _
      | exact ih3 _ _
      | exact LeO.none _
      | refine LeO.ite ?_ ?_
      | refine LeO.bind ?_ (fun _ => ?_)
    · intro y0 y1
      unfold vari_shape.j2
      repeat' first
      | (with_reducible exact ih0 _ _ _ _)
      | (with_reducible exact ih1 _ _)
      | (with_reducible exact ih2 _ _)
      | (with_reducible exact ih3 _ _)
      | (with_reducible exact LeO.refl _)
      | (with_reducible exact LeO.none _)
      | (with_reducible refine LeO.ite ?_ ?_)
      | (with_reducible refine LeO.bind ?_ (fun _ => ?_))
      | exact ih0 _ _ _ _
      | exact ih1 _ _
      | exact ih2 _ _
      | exact ih3 _ _
      | exact LeO.none _
      | refine LeO.ite ?_ ?_
      | refine LeO.bind ?_ (fun _ => ?_)
    · intro y0 y1
      unfold vari_shape.j3
      repeat' first
      | (with_reducible exact ih0 _ _ _ _)
      | (with_reducible exact ih1 _ _)
      | (with_reducible exact ih2 _ _)
      | (with_reducible exact ih3 _ _)
      | (with_reducible exact LeO.refl _)
      | (with_reducible exact LeO.none _)
      | (with_reducible refine LeO.ite ?_ ?_)
      | (with_reducible refine LeO.bind ?_ (fun _ => ?_))
      | exact ih0 _ _ _ _
      | exact ih1 _ _
      | exact ih2 _ _
      | exact ih3 _ _
      | exact LeO.none _
      | refine LeO.ite ?_ ?_
      | refine LeO.bind ?_ (fun _ => ?_)
theorem vari_shape.mono : ∀ a0 a1 k, LeO (vari_shape.f k a0 a1) (vari_shape.f (k + 1) a0 a1) := by
  intro a0 a1 k
  obtain ⟨ih0, ih1, ih2, ih3⟩ := vari_shape.mono_l k
  unfold vari_shape.f
  repeat' first
      | (with_reducible exact ih0 _ _ _ _)
      | (with_reducible exact ih1 _ _)
      | (with_reducible exact ih2 _ _)
      | (with_reducible exact ih3 _ _)
      | (with_reducible exact LeO.refl _)
      | (with_reducible exact LeO.none _)
      | (with_reducible refine LeO.ite ?_ ?_)
      | (with_reducible refine LeO.bind ?_ (fun _ => ?_))
      | exact ih0 _ _ _ _
      | exact ih1 _ _
      | exact ih2 _ _
      | exact ih3 _ _
      | exact LeO.none _
      | refine LeO.ite ?_ ?_
      | refine LeO.bind ?_ (fun _ => ?_)
set_option maxHeartbeats 8000000 in
set_option maxRecDepth 100000 in
theorem vari_shape.calls (k : Nat) (a0 : Int) (a1 : Int) (r1 : Int) (r2 : Bool) (r3 : Bool) (w : World) (h : vari_shape.f k a0 a1 = some (r1, r2, r3)) :
    Calls Try.prog 45 #[.int .i64 a0, .int .i64 a1] w fun e w' => e = .returned (.tuple #[.int .i64 r1, .bool r2, .bool r3]) ∧ Drawn0 w w' := by
  have H : (if (wrap64 ((wrap64 (100 * a0)) + a1)) = 102 then (vari_shape.j0 k a0 a1 (wrap64 ((wrap64 (100 * a0)) + a1)) ((wrap64 ((wrap64 (100 * a0)) + a1)) == 102)) else (if (wrap64 ((wrap64 (100 * a0)) + a1)) = 1002 then (vari_shape.j0 k a0 a1 (wrap64 ((wrap64 (100 * a0)) + a1)) ((wrap64 ((wrap64 (100 * a0)) + a1)) == 1002)) else (if (wrap64 ((wrap64 (100 * a0)) + a1)) = 302 then (vari_shape.j0 k a0 a1 (wrap64 ((wrap64 (100 * a0)) + a1)) ((wrap64 ((wrap64 (100 * a0)) + a1)) == 302)) else (if (wrap64 ((wrap64 (100 * a0)) + a1)) = 201 then (vari_shape.j0 k a0 a1 (wrap64 ((wrap64 (100 * a0)) + a1)) ((wrap64 ((wrap64 (100 * a0)) + a1)) == 201)) else (vari_shape.j0 k a0 a1 (wrap64 ((wrap64 (100 * a0)) + a1)) ((wrap64 ((wrap64 (100 * a0)) + a1)) == 401)))))) = some (r1, r2, r3) := h
  clear h
  have HC3 := Aside0.mk H
  clear H
  go_enter Try.func45, Try.ntmps45
  go_upto_if 11 with (fail)
  go_cut [11] (fun v11 wc => ∃ (kq : Nat) (x11_2 : Bool), v11 = .bool x11_2 ∧ Aside0 (vari_shape.j0 kq a0 a1 (wrap64 ((wrap64 (100 * a0)) + a1)) x11_2 = some (r1, r2, r3)) ∧ Aside0 (kq ≤ k) ∧ Drawn0 w wc)
  case first =>
    have H := HC3.out
    clear HC3
    by_cases c4 : (wrap64 ((wrap64 (100 * a0)) + a1)) = 102
    · rw [if_pos c4] at H
      have c4b0 : ((wrap64 ((wrap64 (100 * a0)) + a1)) == 102) = true := beq_iff_eq.mpr c4
      have c4b1 : ((wrap64 ((wrap64 (100 * a0)) + a1)) != 102) = false := bne_eq_false_iff_eq.mpr c4
      clear c4
      (first | rw [c4b0] | (simp only [i64_w, i32_w]; rw [c4b0]) | skip)
      have H' := Aside0.mk H
      clear H
      go_wp2
      go_meet
      case rel => exact ⟨_, (((wrap64 ((wrap64 (100 * a0)) + a1)) == 102)), (by first | rfl | (simp; done) | (simp [*]; done)), H', ⟨by first | omega | exact Nat.le_refl _⟩, by repeat (first | exact Drawn0.refl _ | apply Drawn0.step)⟩
    · rw [if_neg c4] at H
      have c4b0 : ((wrap64 ((wrap64 (100 * a0)) + a1)) == 102) = false := beq_eq_false_iff_ne.mpr c4
      have c4b1 : ((wrap64 ((wrap64 (100 * a0)) + a1)) != 102) = true := bne_iff_ne.mpr c4
      (first | rw [c4b0] | (simp only [i64_w, i32_w]; rw [c4b0]) | skip)
      by_cases c5 : (wrap64 ((wrap64 (100 * a0)) + a1)) = 1002
      · rw [if_pos c5] at H
        have c5b0 : ((wrap64 ((wrap64 (100 * a0)) + a1)) == 1002) = true := beq_iff_eq.mpr c5
        have c5b1 : ((wrap64 ((wrap64 (100 * a0)) + a1)) != 1002) = false := bne_eq_false_iff_eq.mpr c5
        clear c5
        have H' := Aside0.mk H
        clear H
        go_wp2
        go_meet
        case rel => exact ⟨_, (((wrap64 ((wrap64 (100 * a0)) + a1)) == 1002)), (by first | rfl | (simp; done) | (simp [*]; done)), H', ⟨by first | omega | exact Nat.le_refl _⟩, by repeat (first | exact Drawn0.refl _ | apply Drawn0.step)⟩
      · rw [if_neg c5] at H
        have c5b0 : ((wrap64 ((wrap64 (100 * a0)) + a1)) == 1002) = false := beq_eq_false_iff_ne.mpr c5
        have c5b1 : ((wrap64 ((wrap64 (100 * a0)) + a1)) != 1002) = true := bne_iff_ne.mpr c5
        by_cases c6 : (wrap64 ((wrap64 (100 * a0)) + a1)) = 302
        · rw [if_pos c6] at H
          have c6b0 : ((wrap64 ((wrap64 (100 * a0)) + a1)) == 302) = true := beq_iff_eq.mpr c6
          have c6b1 : ((wrap64 ((wrap64 (100 * a0)) + a1)) != 302) = false := bne_eq_false_iff_eq.mpr c6
          clear c6
          have H' := Aside0.mk H
          clear H
          go_wp2
          go_meet
          case rel => exact ⟨_, (((wrap64 ((wrap64 (100 * a0)) + a1)) == 302)), (by first | rfl | (simp; done) | (simp [*]; done)), H', ⟨by first | omega | exact Nat.le_refl _⟩, by repeat (first | exact Drawn0.refl _ | apply Drawn0.step)⟩
        · rw [if_neg c6] at H
          have c6b0 : ((wrap64 ((wrap64 (100 * a0)) + a1)) == 302) = false := beq_eq_false_iff_ne.mpr c6
          have c6b1 : ((wrap64 ((wrap64 (100 * a0)) + a1)) != 302) = true := bne_iff_ne.mpr c6
          by_cases c7 : (wrap64 ((wrap64 (100 * a0)) + a1)) = 201
          · rw [if_pos c7] at H
            have c7b0 : ((wrap64 ((wrap64 (100 * a0)) + a1)) == 201) = true := beq_iff_eq.mpr c7
            have c7b1 : ((wrap64 ((wrap64 (100 * a0)) + a1)) != 201) = false := bne_eq_false_iff_eq.mpr c7
            clear c7
            have H' := Aside0.mk H
            clear H
            go_wp2
            go_meet
            case rel => exact ⟨_, (((wrap64 ((wrap64 (100 * a0)) + a1)) == 201)), (by first | rfl | (simp; done) | (simp [*]; done)), H', ⟨by first | omega | exact Nat.le_refl _⟩, by repeat (first | exact Drawn0.refl _ | apply Drawn0.step)⟩
          · rw [if_neg c7] at H
            have c7b0 : ((wrap64 ((wrap64 (100 * a0)) + a1)) == 201) = false := beq_eq_false_iff_ne.mpr c7
            have c7b1 : ((wrap64 ((wrap64 (100 * a0)) + a1)) != 201) = true := bne_iff_ne.mpr c7
            have H' := Aside0.mk H
            clear H
            go_wp2
            go_meet
            case rel => exact ⟨_, (((wrap64 ((wrap64 (100 * a0)) + a1)) == 401)), (by first | rfl | (simp; done) | (simp [*]; done)), H', ⟨by first | omega | exact Nat.le_refl _⟩, by repeat (first | exact Drawn0.refl _ | apply Drawn0.step)⟩
  case rest =>
    clear HC3
    try clear p2
    try clear c4
    try clear c4b0
    try clear c4b1
    try clear c5
    try clear c5b0
    try clear c5b1
    try clear c6
    try clear c6b0
    try clear c6b1
    try clear p6
    try clear c7
    try clear c7b0
    try clear c7b1
    obtain ⟨kq, x11_2, rfl, HA, HJ2, ⟨mc2, rfl⟩⟩ := hcut
    cases kq with
    | zero => exact absurd HA.out (by simp [vari_shape.j0])
    | succ kj2 =>
      have H := HA.out
      clear HA
      simp only [vari_shape.j0] at H
      by_cases c8 : x11_2 = true
      · subst c8
        have H1 : (if a0 ≥ 0 then (some (0, false, decide (a1 ≥ 0))) else (some (0, false, false))) = some (r1, r2, r3) := by rw [if_pos rfl] at H; exact H
        clear H
        have H := H1
        clear H1
        by_cases c9 : a0 ≥ 0
        · rw [if_pos c9] at H
          have c9b0 : decide (0 ≤ a0) = true := decide_eq_true c9
          clear c9
          simp only [Option.some.injEq, Prod.mk.injEq] at H
          obtain ⟨rfl, rfl, rfl⟩ := H
          go_wp2
          go_ret3
          exact ⟨by first | rfl | (simp; done) | (simp [*]; done), by repeat (first | exact Drawn0.refl _ | apply Drawn0.step)⟩
        · rw [if_neg c9] at H
          have c9b0 : decide (0 ≤ a0) = false := decide_eq_false c9
          clear c9
          simp only [Option.some.injEq, Prod.mk.injEq] at H
          obtain ⟨rfl, rfl, rfl⟩ := H
          go_wp2
          go_ret3
          exact ⟨by first | rfl | (simp; done) | (simp [*]; done), by repeat (first | exact Drawn0.refl _ | apply Drawn0.step)⟩
      · replace c8 := Bool.eq_false_iff.mpr c8
        subst c8
        have H1 : (if (wrap64 ((wrap64 (100 * a0)) + a1)) = 202 then (vari_shape.j1 kj2 (wrap64 ((wrap64 (100 * a0)) + a1)) ((wrap64 ((wrap64 (100 * a0)) + a1)) == 202)) else (vari_shape.j1 kj2 (wrap64 ((wrap64 (100 * a0)) + a1)) ((wrap64 ((wrap64 (100 * a0)) + a1)) == 402))) = some (r1, r2, r3) := by rw [if_neg (show ¬ (false = true) by decide)] at H; exact H
        clear H
        have H := H1
        clear H1
        have HC10 := Aside0.mk H
        clear H
        go_upto_if 23 with (fail)
        go_cut [23] (fun v23 wc => ∃ (kq : Nat) (x23_9 : Bool), v23 = .bool x23_9 ∧ Aside0 (vari_shape.j1 kq (wrap64 ((wrap64 (100 * a0)) + a1)) x23_9 = some (r1, r2, r3)) ∧ Aside0 (kq ≤ kj2) ∧ Drawn0 w wc)
        case first =>
          have H := HC10.out
          clear HC10
          by_cases c11 : (wrap64 ((wrap64 (100 * a0)) + a1)) = 202
          · rw [if_pos c11] at H
            have c11b0 : ((wrap64 ((wrap64 (100 * a0)) + a1)) == 202) = true := beq_iff_eq.mpr c11
            have c11b1 : ((wrap64 ((wrap64 (100 * a0)) + a1)) != 202) = false := bne_eq_false_iff_eq.mpr c11
            clear c11
            (first | rw [c11b0] | (simp only [i64_w, i32_w]; rw [c11b0]) | skip)
            have H' := Aside0.mk H
            clear H
            go_wp2
            go_meet
            case rel => exact ⟨_, (((wrap64 ((wrap64 (100 * a0)) + a1)) == 202)), (by first | rfl | (simp; done) | (simp [*]; done)), H', ⟨by have := HJ2.out; first | omega | exact Nat.le_refl _⟩, by repeat (first | exact Drawn0.refl _ | apply Drawn0.step)⟩
          · rw [if_neg c11] at H
            have c11b0 : ((wrap64 ((wrap64 (100 * a0)) + a1)) == 202) = false := beq_eq_false_iff_ne.mpr c11
            have c11b1 : ((wrap64 ((wrap64 (100 * a0)) + a1)) != 202) = true := bne_iff_ne.mpr c11
            (first | rw [c11b0] | (simp only [i64_w, i32_w]; rw [c11b0]) | skip)
            have H' := Aside0.mk H
            clear H
            go_wp2
            go_meet
            case rel => exact ⟨_, (((wrap64 ((wrap64 (100 * a0)) + a1)) == 402)), (by first | rfl | (simp; done) | (simp [*]; done)), H', ⟨by have := HJ2.out; first | omega | exact Nat.le_refl _⟩, by repeat (first | exact Drawn0.refl _ | apply Drawn0.step)⟩
        case rest =>
          clear HC10
          try clear c1
          try clear c2
          try clear p2
          try clear c4
          try clear c4b0
          try clear c4b1
          try clear c5
          try clear c5b0
          try clear c5b1
          try clear c6
          try clear c6b0
          try clear c6b1
          try clear p6
          try clear c7
          try clear c7b0
          try clear c7b1
          try clear c8
          try clear c9
          try clear c9b0
          try clear c11
          try clear c11b0
          try clear c11b1
          try clear p2
          try clear p6
          obtain ⟨kq, x23_9, rfl, HA, HJ9, ⟨mc9, rfl⟩⟩ := hcut
          cases kq with
          | zero => exact absurd HA.out (by simp [vari_shape.j1])
          | succ kj9 =>
            have H := HA.out
            clear HA
            simp only [vari_shape.j1] at H
            by_cases c12 : x23_9 = true
            · subst c12
              have H1 : (some (0, true, true)) = some (r1, r2, r3) := by rw [if_pos rfl] at H; exact H
              clear H
              have H := H1
              clear H1
              simp only [Option.some.injEq, Prod.mk.injEq] at H
              obtain ⟨rfl, rfl, rfl⟩ := H
              go_wp2
              go_ret3
              exact ⟨by first | rfl | (simp; done) | (simp [*]; done), by repeat (first | exact Drawn0.refl _ | apply Drawn0.step)⟩
            · replace c12 := Bool.eq_false_iff.mpr c12
              subst c12
              have H1 : (if (wrap64 ((wrap64 (100 * a0)) + a1)) = 2001 then (vari_shape.j2 kj9 (wrap64 ((wrap64 (100 * a0)) + a1)) ((wrap64 ((wrap64 (100 * a0)) + a1)) == 2001)) else (if (wrap64 ((wrap64 (100 * a0)) + a1)) = 2101 then (vari_shape.j2 kj9 (wrap64 ((wrap64 (100 * a0)) + a1)) ((wrap64 ((wrap64 (100 * a0)) + a1)) == 2101)) else (if (wrap64 ((wrap64 (100 * a0)) + a1)) = 2201 then (vari_shape.j2 kj9 (wrap64 ((wrap64 (100 * a0)) + a1)) ((wrap64 ((wrap64 (100 * a0)) + a1)) == 2201)) else (if (wrap64 ((wrap64 (100 * a0)) + a1)) = 3001 then (vari_shape.j2 kj9 (wrap64 ((wrap64 (100 * a0)) + a1)) ((wrap64 ((wrap64 (100 * a0)) + a1)) == 3001)) else (if (wrap64 ((wrap64 (100 * a0)) + a1)) = 4001 then (vari_shape.j2 kj9 (wrap64 ((wrap64 (100 * a0)) + a1)) ((wrap64 ((wrap64 (100 * a0)) + a1)) == 4001)) else (vari_shape.j2 kj9 (wrap64 ((wrap64 (100 * a0)) + a1)) ((wrap64 ((wrap64 (100 * a0)) + a1)) == 3201))))))) = some (r1, r2, r3) := by rw [if_neg (show ¬ (false = true) by decide)] at H; exact H
              clear H
              have H := H1
              clear H1
              have HC13 := Aside0.mk H
              clear H
              go_upto_if 26 with (fail)
              go_cut [26] (fun v26 wc => ∃ (kq : Nat) (x26_12 : Bool), v26 = .bool x26_12 ∧ Aside0 (vari_shape.j2 kq (wrap64 ((wrap64 (100 * a0)) + a1)) x26_12 = some (r1, r2, r3)) ∧ Aside0 (kq ≤ kj9) ∧ Drawn0 w wc)
              case first =>
                have H := HC13.out
                clear HC13
                by_cases c14 : (wrap64 ((wrap64 (100 * a0)) + a1)) = 2001
                · rw [if_pos c14] at H
                  have c14b0 : ((wrap64 ((wrap64 (100 * a0)) + a1)) == 2001) = true := beq_iff_eq.mpr c14
                  have c14b1 : ((wrap64 ((wrap64 (100 * a0)) + a1)) != 2001) = false := bne_eq_false_iff_eq.mpr c14
                  clear c14
                  (first | rw [c14b0] | (simp only [i64_w, i32_w]; rw [c14b0]) | skip)
                  have H' := Aside0.mk H
                  clear H
                  go_wp2
                  go_meet
                  case rel => exact ⟨_, (((wrap64 ((wrap64 (100 * a0)) + a1)) == 2001)), (by first | rfl | (simp; done) | (simp [*]; done)), H', ⟨by have := HJ2.out; have := HJ9.out; first | omega | exact Nat.le_refl _⟩, by repeat (first | exact Drawn0.refl _ | apply Drawn0.step)⟩
                · rw [if_neg c14] at H
                  have c14b0 : ((wrap64 ((wrap64 (100 * a0)) + a1)) == 2001) = false := beq_eq_false_iff_ne.mpr c14
                  have c14b1 : ((wrap64 ((wrap64 (100 * a0)) + a1)) != 2001) = true := bne_iff_ne.mpr c14
                  (first | rw [c14b0] | (simp only [i64_w, i32_w]; rw [c14b0]) | skip)
                  by_cases c15 : (wrap64 ((wrap64 (100 * a0)) + a1)) = 2101
                  · rw [if_pos c15] at H
                    have c15b0 : ((wrap64 ((wrap64 (100 * a0)) + a1)) == 2101) = true := beq_iff_eq.mpr c15
                    have c15b1 : ((wrap64 ((wrap64 (100 * a0)) + a1)) != 2101) = false := bne_eq_false_iff_eq.mpr c15
                    clear c15
                    have H' := Aside0.mk H
                    clear H
                    go_wp2
                    go_meet
                    case rel => exact ⟨_, (((wrap64 ((wrap64 (100 * a0)) + a1)) == 2101)), (by first | rfl | (simp; done) | (simp [*]; done)), H', ⟨by have := HJ2.out; have := HJ9.out; first | omega | exact Nat.le_refl _⟩, by repeat (first | exact Drawn0.refl _ | apply Drawn0.step)⟩
                  · rw [if_neg c15] at H
                    have c15b0 : ((wrap64 ((wrap64 (100 * a0)) + a1)) == 2101) = false := beq_eq_false_iff_ne.mpr c15
                    have c15b1 : ((wrap64 ((wrap64 (100 * a0)) + a1)) != 2101) = true := bne_iff_ne.mpr c15
                    by_cases c16 : (wrap64 ((wrap64 (100 * a0)) + a1)) = 2201
                    · rw [if_pos c16] at H
                      have c16b0 : ((wrap64 ((wrap64 (100 * a0)) + a1)) == 2201) = true := beq_iff_eq.mpr c16
                      have c16b1 : ((wrap64 ((wrap64 (100 * a0)) + a1)) != 2201) = false := bne_eq_false_iff_eq.mpr c16
                      clear c16
                      have H' := Aside0.mk H
                      clear H
                      go_wp2
                      go_meet
                      case rel => exact ⟨_, (((wrap64 ((wrap64 (100 * a0)) + a1)) == 2201)), (by first | rfl | (simp; done) | (simp [*]; done)), H', ⟨by have := HJ2.out; have := HJ9.out; first | omega | exact Nat.le_refl _⟩, by repeat (first | exact Drawn0.refl _ | apply Drawn0.step)⟩
                    · rw [if_neg c16] at H
                      have c16b0 : ((wrap64 ((wrap64 (100 * a0)) + a1)) == 2201) = false := beq_eq_false_iff_ne.mpr c16
                      have c16b1 : ((wrap64 ((wrap64 (100 * a0)) + a1)) != 2201) = true := bne_iff_ne.mpr c16
                      by_cases c17 : (wrap64 ((wrap64 (100 * a0)) + a1)) = 3001
                      · rw [if_pos c17] at H
                        have c17b0 : ((wrap64 ((wrap64 (100 * a0)) + a1)) == 3001) = true := beq_iff_eq.mpr c17
                        have c17b1 : ((wrap64 ((wrap64 (100 * a0)) + a1)) != 3001) = false := bne_eq_false_iff_eq.mpr c17
                        clear c17
                        have H' := Aside0.mk H
                        clear H
                        go_wp2
                        go_meet
                        case rel => exact ⟨_, (((wrap64 ((wrap64 (100 * a0)) + a1)) == 3001)), (by first | rfl | (simp; done) | (simp [*]; done)), H', ⟨by have := HJ2.out; have := HJ9.out; first | omega | exact Nat.le_refl _⟩, by repeat (first | exact Drawn0.refl _ | apply Drawn0.step)⟩
                      · rw [if_neg c17] at H
                        have c17b0 : ((wrap64 ((wrap64 (100 * a0)) + a1)) == 3001) = false := beq_eq_false_iff_ne.mpr c17
                        have c17b1 : ((wrap64 ((wrap64 (100 * a0)) + a1)) != 3001) = true := bne_iff_ne.mpr c17
                        by_cases c18 : (wrap64 ((wrap64 (100 * a0)) + a1)) = 4001
                        · rw [if_pos c18] at H
                          have c18b0 : ((wrap64 ((wrap64 (100 * a0)) + a1)) == 4001) = true := beq_iff_eq.mpr c18
                          have c18b1 : ((wrap64 ((wrap64 (100 * a0)) + a1)) != 4001) = false := bne_eq_false_iff_eq.mpr c18
                          clear c18
                          have H' := Aside0.mk H
                          clear H
                          go_wp2
                          go_meet
                          case rel => exact ⟨_, (((wrap64 ((wrap64 (100 * a0)) + a1)) == 4001)), (by first | rfl | (simp; done) | (simp [*]; done)), H', ⟨by have := HJ2.out; have := HJ9.out; first | omega | exact Nat.le_refl _⟩, by repeat (first | exact Drawn0.refl _ | apply Drawn0.step)⟩
                        · rw [if_neg c18] at H
                          have c18b0 : ((wrap64 ((wrap64 (100 * a0)) + a1)) == 4001) = false := beq_eq_false_iff_ne.mpr c18
                          have c18b1 : ((wrap64 ((wrap64 (100 * a0)) + a1)) != 4001) = true := bne_iff_ne.mpr c18
                          have H' := Aside0.mk H
                          clear H
                          go_wp2
                          go_meet
                          case rel => exact ⟨_, (((wrap64 ((wrap64 (100 * a0)) + a1)) == 3201)), (by first | rfl | (simp; done) | (simp [*]; done)), H', ⟨by have := HJ2.out; have := HJ9.out; first | omega | exact Nat.le_refl _⟩, by repeat (first | exact Drawn0.refl _ | apply Drawn0.step)⟩
              case rest =>
                clear HC13
                try clear c1
                try clear c2
                try clear p2
                try clear c4
                try clear c4b0
                try clear c4b1
                try clear c5
                try clear c5b0
                try clear c5b1
                try clear c6
                try clear c6b0
                try clear c6b1
                try clear p6
                try clear c7
                try clear c7b0
                try clear c7b1
                try clear c8
                try clear c9
                try clear c9b0
                try clear c11
                try clear c11b0
                try clear c11b1
                try clear c12
                try clear c14
                try clear c14b0
                try clear c14b1
                try clear c15
                try clear c15b0
                try clear c15b1
                try clear c16
                try clear c16b0
                try clear c16b1
                try clear c17
                try clear c17b0
                try clear c17b1
                try clear c18
                try clear c18b0
                try clear c18b1
                try clear p2
                try clear p6
                obtain ⟨kq, x26_12, rfl, HA, HJ12, ⟨mc12, rfl⟩⟩ := hcut
                cases kq with
                | zero => exact absurd HA.out (by simp [vari_shape.j2])
                | succ kj12 =>
                  have H := HA.out
                  clear HA
                  simp only [vari_shape.j2] at H
                  by_cases c19 : x26_12 = true
                  · subst c19
                    have H1 : (some (4, false, true)) = some (r1, r2, r3) := by rw [if_pos rfl] at H; exact H
                    clear H
                    have H := H1
                    clear H1
                    simp only [Option.some.injEq, Prod.mk.injEq] at H
                    obtain ⟨rfl, rfl, rfl⟩ := H
                    go_wp2
                    go_ret3
                    exact ⟨by first | rfl | (simp; done) | (simp [*]; done), by repeat (first | exact Drawn0.refl _ | apply Drawn0.step)⟩
                  · replace c19 := Bool.eq_false_iff.mpr c19
                    subst c19
                    have H1 : (if (wrap64 ((wrap64 (100 * a0)) + a1)) = 2205 then (vari_shape.j3 kj12 (wrap64 ((wrap64 (100 * a0)) + a1)) ((wrap64 ((wrap64 (100 * a0)) + a1)) == 2205)) else (vari_shape.j3 kj12 (wrap64 ((wrap64 (100 * a0)) + a1)) ((wrap64 ((wrap64 (100 * a0)) + a1)) == 3203))) = some (r1, r2, r3) := by rw [if_neg (show ¬ (false = true) by decide)] at H; exact H
                    clear H
                    have H := H1
                    clear H1
                    have HC20 := Aside0.mk H
                    clear H
                    go_upto_if 33 with (fail)
                    go_cut [33] (fun v33 wc => ∃ (kq : Nat) (x33_19 : Bool), v33 = .bool x33_19 ∧ Aside0 (vari_shape.j3 kq (wrap64 ((wrap64 (100 * a0)) + a1)) x33_19 = some (r1, r2, r3)) ∧ Aside0 (kq ≤ kj12) ∧ Drawn0 w wc)
                    case first =>
                      have H := HC20.out
                      clear HC20
                      by_cases c21 : (wrap64 ((wrap64 (100 * a0)) + a1)) = 2205
                      · rw [if_pos c21] at H
                        have c21b0 : ((wrap64 ((wrap64 (100 * a0)) + a1)) == 2205) = true := beq_iff_eq.mpr c21
                        have c21b1 : ((wrap64 ((wrap64 (100 * a0)) + a1)) != 2205) = false := bne_eq_false_iff_eq.mpr c21
                        clear c21
                        (first | rw [c21b0] | (simp only [i64_w, i32_w]; rw [c21b0]) | skip)
                        have H' := Aside0.mk H
                        clear H
                        go_wp2
                        go_meet
                        case rel => exact ⟨_, (((wrap64 ((wrap64 (100 * a0)) + a1)) == 2205)), (by first | rfl | (simp; done) | (simp [*]; done)), H', ⟨by have := HJ2.out; have := HJ9.out; have := HJ12.out; first | omega | exact Nat.le_refl _⟩, by repeat (first | exact Drawn0.refl _ | apply Drawn0.step)⟩
                      · rw [if_neg c21] at H
                        have c21b0 : ((wrap64 ((wrap64 (100 * a0)) + a1)) == 2205) = false := beq_eq_false_iff_ne.mpr c21
                        have c21b1 : ((wrap64 ((wrap64 (100 * a0)) + a1)) != 2205) = true := bne_iff_ne.mpr c21
                        (first | rw [c21b0] | (simp only [i64_w, i32_w]; rw [c21b0]) | skip)
                        have H' := Aside0.mk H
                        clear H
                        go_wp2
                        go_meet
                        case rel => exact ⟨_, (((wrap64 ((wrap64 (100 * a0)) + a1)) == 3203)), (by first | rfl | (simp; done) | (simp [*]; done)), H', ⟨by have := HJ2.out; have := HJ9.out; have := HJ12.out; first | omega | exact Nat.le_refl _⟩, by repeat (first | exact Drawn0.refl _ | apply Drawn0.step)⟩
                    case rest =>
                      clear HC20
                      try clear c1
                      try clear c2
                      try clear p2
                      try clear c4
                      try clear c4b0
                      try clear c4b1
                      try clear c5
                      try clear c5b0
                      try clear c5b1
                      try clear c6
                      try clear c6b0
                      try clear c6b1
                      try clear p6
                      try clear c7
                      try clear c7b0
                      try clear c7b1
                      try clear c8
                      try clear c9
                      try clear c9b0
                      try clear c11
                      try clear c11b0
                      try clear c11b1
                      try clear c12
                      try clear c14
                      try clear c14b0
                      try clear c14b1
                      try clear c15
                      try clear c15b0
                      try clear c15b1
                      try clear c16
                      try clear c16b0
                      try clear c16b1
                      try clear c17
                      try clear c17b0
                      try clear c17b1
                      try clear c18
                      try clear c18b0
                      try clear c18b1
                      try clear c19
                      try clear c21
                      try clear c21b0
                      try clear c21b1
                      try clear p2
                      try clear p6
                      obtain ⟨kq, x33_19, rfl, HA, HJ19, ⟨mc19, rfl⟩⟩ := hcut
                      cases kq with
                      | zero => exact absurd HA.out (by simp [vari_shape.j3])
                      | succ kj19 =>
                        have H := HA.out
                        clear HA
                        simp only [vari_shape.j3] at H
                        by_cases c22 : x33_19 = true
                        · subst c22
                          have H1 : (some (4, true, true)) = some (r1, r2, r3) := by rw [if_pos rfl] at H; exact H
                          clear H
                          have H := H1
                          clear H1
                          simp only [Option.some.injEq, Prod.mk.injEq] at H
                          obtain ⟨rfl, rfl, rfl⟩ := H
                          go_wp2
                          go_ret3
                          exact ⟨by first | rfl | (simp; done) | (simp [*]; done), by repeat (first | exact Drawn0.refl _ | apply Drawn0.step)⟩
                        · replace c22 := Bool.eq_false_iff.mpr c22
                          subst c22
                          have H1 : (if (wrap64 ((wrap64 (100 * a0)) + a1)) = 3002 then (some (2, false, true)) else (if (wrap64 ((wrap64 (100 * a0)) + a1)) = 4002 then (some (2, false, true)) else (if (wrap64 ((wrap64 (100 * a0)) + a1)) = 3202 then (some (2, false, true)) else (some (0, false, false))))) = some (r1, r2, r3) := by rw [if_neg (show ¬ (false = true) by decide)] at H; exact H
                          clear H
                          have H := H1
                          clear H1
                          by_cases c23 : (wrap64 ((wrap64 (100 * a0)) + a1)) = 3002
                          · rw [if_pos c23] at H
                            have c23b0 : ((wrap64 ((wrap64 (100 * a0)) + a1)) == 3002) = true := beq_iff_eq.mpr c23
                            have c23b1 : ((wrap64 ((wrap64 (100 * a0)) + a1)) != 3002) = false := bne_eq_false_iff_eq.mpr c23
                            clear c23
                            simp only [Option.some.injEq, Prod.mk.injEq] at H
                            obtain ⟨rfl, rfl, rfl⟩ := H
                            go_wp2
                            go_ret3
                            exact ⟨by first | rfl | (simp; done) | (simp [*]; done), by repeat (first | exact Drawn0.refl _ | apply Drawn0.step)⟩
                          · rw [if_neg c23] at H
                            have c23b0 : ((wrap64 ((wrap64 (100 * a0)) + a1)) == 3002) = false := beq_eq_false_iff_ne.mpr c23
                            have c23b1 : ((wrap64 ((wrap64 (100 * a0)) + a1)) != 3002) = true := bne_iff_ne.mpr c23
                            by_cases c24 : (wrap64 ((wrap64 (100 * a0)) + a1)) = 4002
                            · rw [if_pos c24] at H
                              have c24b0 : ((wrap64 ((wrap64 (100 * a0)) + a1)) == 4002) = true := beq_iff_eq.mpr c24
                              have c24b1 : ((wrap64 ((wrap64 (100 * a0)) + a1)) != 4002) = false := bne_eq_false_iff_eq.mpr c24
                              clear c24
                              simp only [Option.some.injEq, Prod.mk.injEq] at H
                              obtain ⟨rfl, rfl, rfl⟩ := H
                              go_wp2
                              go_ret3
                              exact ⟨by first | rfl | (simp; done) | (simp [*]; done), by repeat (first | exact Drawn0.refl _ | apply Drawn0.step)⟩
                            · rw [if_neg c24] at H
                              have c24b0 : ((wrap64 ((wrap64 (100 * a0)) + a1)) == 4002) = false := beq_eq_false_iff_ne.mpr c24
                              have c24b1 : ((wrap64 ((wrap64 (100 * a0)) + a1)) != 4002) = true := bne_iff_ne.mpr c24
                              by_cases c25 : (wrap64 ((wrap64 (100 * a0)) + a1)) = 3202
                              · rw [if_pos c25] at H
                                have c25b0 : ((wrap64 ((wrap64 (100 * a0)) + a1)) == 3202) = true := beq_iff_eq.mpr c25
                                have c25b1 : ((wrap64 ((wrap64 (100 * a0)) + a1)) != 3202) = false := bne_eq_false_iff_eq.mpr c25
                                clear c25
                                simp only [Option.some.injEq, Prod.mk.injEq] at H
                                obtain ⟨rfl, rfl, rfl⟩ := H
                                go_wp2
                                go_ret3
                                exact ⟨by first | rfl | (simp; done) | (simp [*]; done), by repeat (first | exact Drawn0.refl _ | apply Drawn0.step)⟩
                              · rw [if_neg c25] at H
                                have c25b0 : ((wrap64 ((wrap64 (100 * a0)) + a1)) == 3202) = false := beq_eq_false_iff_ne.mpr c25
                                have c25b1 : ((wrap64 ((wrap64 (100 * a0)) + a1)) != 3202) = true := bne_iff_ne.mpr c25
                                simp only [Option.some.injEq, Prod.mk.injEq] at H
                                obtain ⟨rfl, rfl, rfl⟩ := H
                                go_wp2
                                go_ret3
                                exact ⟨by first | rfl | (simp; done) | (simp [*]; done), by repeat (first | exact Drawn0.refl _ | apply Drawn0.step)⟩

/-! ### vari_shaped: function 34 -/
def vari_shaped.f (k : Nat) (a0 : Int) (a1 : Int) : Option (Int × Bool × Bool) := (vari_Kind.f k a0).bind fun t101 => (if t101 = 0 then (some (0, false, false)) else (if a1 < 0 then (some (0, false, false)) else (if a1 > 99 then (some (0, false, false)) else ((vari_shape.f k a0 a1).bind fun bt102 => (some (bt102.1, bt102.2.1, bt102.2.2))))))
theorem vari_shaped.mono : ∀ a0 a1 k, LeO (vari_shaped.f k a0 a1) (vari_shaped.f (k + 1) a0 a1) := by
  intro a0 a1 k
  unfold vari_shaped.f
  repeat' first
      | (with_reducible exact vari_Kind.mono _ _)
      | (with_reducible exact vari_shape.mono _ _ _)
      | (with_reducible exact LeO.refl _)
      | (with_reducible exact LeO.none _)
      | (with_reducible refine LeO.ite ?_ ?_)
      | (with_reducible refine LeO.bind ?_ (fun _ => ?_))
      | exact vari_Kind.mono _ _
      | exact vari_shape.mono _ _ _
      | exact LeO.none _
      | refine LeO.ite ?_ ?_
      | refine LeO.bind ?_ (fun _ => ?_)
set_option maxHeartbeats 8000000 in
set_option maxRecDepth 100000 in
theorem vari_shaped.calls (k : Nat) (a0 : Int) (a1 : Int) (r1 : Int) (r2 : Bool) (r3 : Bool) (w : World) (h : vari_shaped.f k a0 a1 = some (r1, r2, r3)) :
    Calls Try.prog 34 #[.int .i64 a0, .int .i64 a1] w fun e w' => e = .returned (.tuple #[.int .i64 r1, .bool r2, .bool r3]) ∧ Drawn0 w w' := by
  have H : ((vari_Kind.f k a0).bind fun t101 => (if t101 = 0 then (some (0, false, false)) else (if a1 < 0 then (some (0, false, false)) else (if a1 > 99 then (some (0, false, false)) else ((vari_shape.f k a0 a1).bind fun bt102 => (some (bt102.1, bt102.2.1, bt102.2.2))))))) = some (r1, r2, r3) := h
  clear h
  replace H := Option.bind_eq_some_iff.mp H
  obtain ⟨t101, A30, H⟩ := H
  replace H : (if t101 = 0 then (some (0, false, false)) else (if a1 < 0 then (some (0, false, false)) else (if a1 > 99 then (some (0, false, false)) else ((vari_shape.f k a0 a1).bind fun bt102 => (some (bt102.1, bt102.2.1, bt102.2.2)))))) = some (r1, r2, r3) := H
  have A3 := Aside0.mk A30
  clear A30
  by_cases c4 : t101 = 0
  · rw [if_pos c4] at H
    have c4b0 : (t101 == 0) = true := beq_iff_eq.mpr c4
    have c4b1 : (t101 != 0) = false := bne_eq_false_iff_eq.mpr c4
    clear c4
    simp only [Option.some.injEq, Prod.mk.injEq] at H
    obtain ⟨rfl, rfl, rfl⟩ := H
    go_enter Try.func34, Try.ntmps34
    go_wp2_with (first | ((with_reducible refine gate_callee (f := 14) rfl ?_); refine goesL_ (some 8) rfl rfl Try.func14 (by kernel_rfl) rfl #[.int .i64 a0] rfl (by (try simp only [List.map_toArray, List.map_cons, List.map_nil]); first | done | rfl | (simp only [List.length_drop, List.length_take]; rfl)) ?_; (with_reducible refine (vari_Kind.calls k a0 t101 _ A3.out).mono ?_); rintro e w' ⟨rfl, ⟨nd, rfl⟩⟩; refine ⟨_, rfl, ?_⟩))
    go_ret3
    exact ⟨by first | rfl | (simp; done) | (simp [*]; done), by repeat (first | exact Drawn0.refl _ | apply Drawn0.step)⟩
  · rw [if_neg c4] at H
    have c4b0 : (t101 == 0) = false := beq_eq_false_iff_ne.mpr c4
    have c4b1 : (t101 != 0) = true := bne_iff_ne.mpr c4
    by_cases c5 : a1 < 0
    · rw [if_pos c5] at H
      have c5b0 : decide (a1 < 0) = true := decide_eq_true c5
      clear c5
      simp only [Option.some.injEq, Prod.mk.injEq] at H
      obtain ⟨rfl, rfl, rfl⟩ := H
      go_enter Try.func34, Try.ntmps34
      go_wp2_with (first | ((with_reducible refine gate_callee (f := 14) rfl ?_); refine goesL_ (some 8) rfl rfl Try.func14 (by kernel_rfl) rfl #[.int .i64 a0] rfl (by (try simp only [List.map_toArray, List.map_cons, List.map_nil]); first | done | rfl | (simp only [List.length_drop, List.length_take]; rfl)) ?_; (with_reducible refine (vari_Kind.calls k a0 t101 _ A3.out).mono ?_); rintro e w' ⟨rfl, ⟨nd, rfl⟩⟩; refine ⟨_, rfl, ?_⟩))
      go_ret3
      exact ⟨by first | rfl | (simp; done) | (simp [*]; done), by repeat (first | exact Drawn0.refl _ | apply Drawn0.step)⟩
    · rw [if_neg c5] at H
      have c5b0 : decide (a1 < 0) = false := decide_eq_false c5
      clear c5
      by_cases c6 : a1 > 99
      · rw [if_pos c6] at H
        have c6b0 : decide (99 < a1) = true := decide_eq_true c6
        clear c6
        simp only [Option.some.injEq, Prod.mk.injEq] at H
        obtain ⟨rfl, rfl, rfl⟩ := H
        go_enter Try.func34, Try.ntmps34
        go_wp2_with (first | ((with_reducible refine gate_callee (f := 14) rfl ?_); refine goesL_ (some 8) rfl rfl Try.func14 (by kernel_rfl) rfl #[.int .i64 a0] rfl (by (try simp only [List.map_toArray, List.map_cons, List.map_nil]); first | done | rfl | (simp only [List.length_drop, List.length_take]; rfl)) ?_; (with_reducible refine (vari_Kind.calls k a0 t101 _ A3.out).mono ?_); rintro e w' ⟨rfl, ⟨nd, rfl⟩⟩; refine ⟨_, rfl, ?_⟩))
        go_ret3
        exact ⟨by first | rfl | (simp; done) | (simp [*]; done), by repeat (first | exact Drawn0.refl _ | apply Drawn0.step)⟩
      · rw [if_neg c6] at H
        have c6b0 : decide (99 < a1) = false := decide_eq_false c6
        clear c6
        replace H := Option.bind_eq_some_iff.mp H
        obtain ⟨⟨t102, t103, t104⟩, A70, H⟩ := H
        replace H : (some (t102, t103, t104)) = some (r1, r2, r3) := H
        have A7 := Aside0.mk A70
        clear A70
        simp only [Option.some.injEq, Prod.mk.injEq] at H
        obtain ⟨rfl, rfl, rfl⟩ := H
        go_enter Try.func34, Try.ntmps34
        go_wp2_with (first | ((with_reducible refine gate_callee (f := 14) rfl ?_); refine goesL_ (some 8) rfl rfl Try.func14 (by kernel_rfl) rfl #[.int .i64 a0] rfl (by (try simp only [List.map_toArray, List.map_cons, List.map_nil]); first | done | rfl | (simp only [List.length_drop, List.length_take]; rfl)) ?_; (with_reducible refine (vari_Kind.calls k a0 t101 _ A3.out).mono ?_); rintro e w' ⟨rfl, ⟨nd, rfl⟩⟩; refine ⟨_, rfl, ?_⟩) | ((with_reducible refine gate_callee (f := 45) rfl ?_); refine goesL_ (some 20) rfl rfl Try.func45 (by kernel_rfl) rfl #[.int .i64 a0, .int .i64 a1] rfl (by (try simp only [List.map_toArray, List.map_cons, List.map_nil]); first | done | rfl | (simp only [List.length_drop, List.length_take]; rfl)) ?_; (with_reducible refine (vari_shape.calls k a0 a1 t102 t103 t104 _ A7.out).mono ?_); rintro e w' ⟨rfl, ⟨nd, rfl⟩⟩; refine ⟨_, rfl, ?_⟩))
        go_ret3
        exact ⟨by first | rfl | (simp; done) | (simp [*]; done), by repeat (first | exact Drawn0.refl _ | apply Drawn0.step)⟩

/-! ### vari_split: function 35 -/
def vari_split.l0 : Nat → Int → List Int → Int → Int → Option (List Int)
  | 0, _, _, _, _ => none
  | k + 1, x1, x5, x7, x8 => if x8 < x7 then (if 0 ≤ (wrap64 (8 * x8)) then (if x5.length < 140737488355328 then (vari_split.l0 k x1 (x5 ++ [(shr .i64 x1 (wrap64 (8 * x8))) % 256]) x7 (wrap64 (x8 + 1))) else (none)) else (none)) else (some x5)
def vari_split.f (k : Nat) (a0 : Int) (a1 : Int) : Option (List Int) := vari_split.l0 k a1 ([] : List Int) a0 0
theorem vari_split.mono_l : ∀ k, (∀ y0 y1 y2 y3, LeO (vari_split.l0 k y0 y1 y2 y3) (vari_split.l0 (k + 1) y0 y1 y2 y3))
  | 0 => fun _ _ _ _ r h => by simp [vari_split.l0] at h
  | k + 1 => by
    have ih0 := vari_split.mono_l k
    · intro y0 y1 y2 y3
      unfold vari_split.l0
      repeat' first
      | (with_reducible exact ih0 _ _ _ _)
      | (with_reducible exact LeO.refl _)
      | (with_reducible exact LeO.none _)
      | (with_reducible refine LeO.ite ?_ ?_)
      | (with_reducible refine LeO.bind ?_ (fun _ => ?_))
      | exact ih0 _ _ _ _
      | exact LeO.none _
      | refine LeO.ite ?_ ?_
      | refine LeO.bind ?_ (fun _ => ?_)
theorem vari_split.mono : ∀ a0 a1 k, LeO (vari_split.f k a0 a1) (vari_split.f (k + 1) a0 a1) := by
  intro a0 a1 k
  have ih0 := vari_split.mono_l k
  unfold vari_split.f
  repeat' first
      | (with_reducible exact ih0 _ _ _ _)
      | (with_reducible exact LeO.refl _)
      | (with_reducible exact LeO.none _)
      | (with_reducible refine LeO.ite ?_ ?_)
      | (with_reducible refine LeO.bind ?_ (fun _ => ?_))
      | exact ih0 _ _ _ _
      | exact LeO.none _
      | refine LeO.ite ?_ ?_
      | refine LeO.bind ?_ (fun _ => ?_)
set_option maxHeartbeats 8000000 in
set_option maxRecDepth 100000 in
theorem vari_split.calls (k : Nat) (a0 : Int) (a1 : Int) (r : List Int) (w : World) (h : vari_split.f k a0 a1 = some r) :
    Calls Try.prog 35 #[.int .i64 a0, .int .i64 a1] w fun e w' => ∃ v0_ : Value, e = .returned (v0_) ∧ Kd.R (Kd.int .u8) 5 w' w.heap.size (fun _ => True) v0_ r ∧ Below w.heap.size w w' := by
  have HB := Aside0.mk (Below.refl w.heap.size w)
  have H : (vari_split.l0 k a1 ([] : List Int) a0 0) = some r := h
  clear h
  have H' := Aside0.mk H
  clear H
  go_enter Try.func35, Try.ntmps35
  go_wp2
  go_loopg [5, 8] k (fun kq v5 v8 w' => ∃ (x5_1 : List Int) (x8_1 : Int), v8 = .int .i64 x8_1 ∧ Aside0 (vari_split.l0 kq a1 x5_1 a0 x8_1 = some r) ∧ Aside0 (kq ≤ k) ∧ Aside0 (Kd.R (Kd.int .u8) 5 w' w.heap.size (fun _ => True) v5 x5_1) ∧ Aside0 (Below w.heap.size w w'))
  case atStart => exact ⟨(([] : List Int)), (0), (by first | rfl | (simp; done) | (simp [*]; done)), H', ⟨Nat.le_refl _⟩, ⟨by first | exact Kd.R_nil _ _ _ _ _ | exact Kd.N_nil _ _ _ _ _ | exact Kd.V_nil _ _ _ _ _ | exact Kd.Q_nil _ _ _ _ _ | exact Kd.S_nil _ _ _ _ _⟩, ⟨by repeat (first | (with_reducible first | exact HB.out | apply below_alloc | apply pw_below_drewN | apply below_drew1) | exact HB.out)⟩⟩
  case round =>
    clear H'
    try clear p2
    obtain ⟨x5_1, x8_1, rfl, HA, HK1, HO_5, HB⟩ := hrel
    cases gk with
    | zero => exact absurd HA.out (by simp [vari_split.l0])
    | succ k1 =>
      have H := HA.out
      clear HA
      simp only [vari_split.l0] at H
      by_cases c3 : x8_1 < a0
      · rw [if_pos c3] at H
        have c3b0 : decide (x8_1 < a0) = true := decide_eq_true c3
        clear c3
        obtain ⟨ji4, hji4⟩ : ∃ j_ : Int, (wrap64 (8 * x8_1)) = j_ := ⟨_, rfl⟩
        replace H : (if 0 ≤ (ji4) then (if x5_1.length < 140737488355328 then (vari_split.l0 k1 a1 (x5_1 ++ [(shr .i64 a1 (ji4)) % 256]) a0 (wrap64 (x8_1 + 1))) else (none)) else (none)) = some r := by first | (rw [hji4] at H; exact H) | (simp only [hji4] at H ⊢; exact H)
        have hji4w : (IntKind.i64.wrap (8 * x8_1)) = ji4 := (i64_w _).trans hji4
        by_cases c5 : 0 ≤ (ji4)
        · rw [if_pos c5] at H
          have c5b0 := eq_true c5
          have c5b1 : decide (0 ≤ (ji4)) = true := decide_eq_true c5
          clear c5
          obtain ⟨ji6, hji6⟩ : ∃ j_ : Int, (shr .i64 a1 (ji4)) = j_ := ⟨_, rfl⟩
          replace H : (if x5_1.length < 140737488355328 then (vari_split.l0 k1 a1 (x5_1 ++ [(ji6) % 256]) a0 (wrap64 (x8_1 + 1))) else (none)) = some r := by first | (rw [hji6] at H; exact H) | (simp only [hji6] at H ⊢; exact H)
          have hji6_ : (a1 / 2 ^ min (ji4).toNat 64) = ji6 := hji6
          have hji6z : (ji4) ≤ 64 → (a1 / 2 ^ (ji4).toNat) = ji6 := shr_small hji6
          by_cases c7 : x5_1.length < 140737488355328
          · rw [if_pos c7] at H
            have LMc7 := Aside0.mk c7
            clear c7
            obtain ⟨y105, hy105⟩ : ∃ y_ : List Int, y_ = (x5_1 ++ [(ji6) % 256]) := ⟨_, rfl⟩
            replace H : (vari_split.l0 k1 a1 y105 a0 (wrap64 (x8_1 + 1))) = some r := by first | (rw [hy105]; with_reducible exact H) | (have H2_ := (Option.bind_some _ _).symm.trans H; rw [hy105]; with_reducible exact H2_) | (have H2_ := (Option.bind_some _ _).symm.trans H; with_reducible exact H2_) | with_reducible exact H | (rw [hy105]; exact H) | exact H
            have Ny105 := Aside0.mk hy105
            clear hy105
            have H' := Aside0.mk H
            clear H
            go_wp2_with (first | ((with_reducible refine gate_builtin (b := .append) (xs := #[.tmp 11, .tmp 17]) rfl ?_); at_builtin; refine Kd.R_append (Kd.int .u8) (w0 := w) w.heap.size rfl (.tmp 11) (.tmp 17) 25 5 (.int .u8 0) 1 rfl Try.underlying25 info5 rfl (by decide) (by omega) u5 x5_1 ((ji6) % 256) [.int .u8 ((ji6) % 256)] (fun _ => True) (fun _ => False) rfl rfl ?aP (fun _ hk => hk.elim) ?aF ?aO ?aB ?aS ?aL ?_; (case aP => exact rfl); (case aB => exact (by repeat (first | (with_reducible first | exact HB.out | apply below_alloc | apply pw_below_drewN | apply below_drew1) | exact HB.out))); (case aF => exact (fun _ _ => trivial)); (case aO => exact (by (with_reducible repeat (first | apply Kd.R_alloc | apply Kd.R_drewN | apply Kd.R_drew)); exact HO_5.out)); (case aS => exact (below_size (by repeat (first | (with_reducible first | exact HB.out | apply below_alloc | apply pw_below_drewN | apply below_drew1) | exact HB.out)))); (case aL => have := LMc7.out; omega); intro v106 w8 ho hb hg hat; rw [← Ny105.out] at ho; have n0_ := Aside0.mk (hb); have n1_ := Aside0.mk (ho); clear HB; clear HO_5; have HB := n0_; have HO107 := n1_; clear n0_ n1_; clear ho hb hg hat))
            go_roundg k1
            case measure => have := HK1.out; omega
            case rel => exact ⟨(y105), (wrap64 (x8_1 + 1)), (by first | rfl | (simp; done) | (simp [*]; done)), H', ⟨by have := HK1.out; omega⟩, ⟨by (with_reducible repeat (first | apply Kd.R_alloc | apply Kd.R_drewN | apply Kd.R_drew)); exact HO107.out⟩, ⟨by repeat (first | (with_reducible first | exact HB.out | apply below_alloc | apply pw_below_drewN | apply below_drew1) | exact HB.out)⟩⟩
          · rw [if_neg c7] at H
            exact absurd H (by simp)
        · rw [if_neg c5] at H
          exact absurd H (by simp)
      · rw [if_neg c3] at H
        have c3b0 : decide (x8_1 < a0) = false := decide_eq_false c3
        clear c3
        obtain rfl := Option.some.inj H
        go_wp2
        go_ret
        exact ⟨_, by first | rfl | (simp [errW_none, errW_some] <;> rfl) | (simp [*, errW_none, errW_some] <;> rfl), by (with_reducible repeat (first | apply Kd.R_alloc | apply Kd.R_drewN | apply Kd.R_drew)); exact HO_5.out, by repeat (first | (with_reducible first | exact HB.out | apply below_alloc | apply pw_below_drewN | apply below_drew1) | exact HB.out)⟩

end Go.Proofs.Ytpchlljelbpanaa.PVariTables
