-- PRINTED BY print.sh 35421559b90ae4d0a3588c463048766b98c2df88dd9212a6774a882060cdf62d: not written by this session
import Derived.Test.YtainifflpbkiiaaPScaleNearx0
import Derived.Test.YtainifflpbkiiaaPScaleNearx1
namespace Go.Proofs.Ytainifflpbkiiaa.PScaleNear
open Go.RowKit Go.Proofs.YtainifflpbkiiaaW.PrintWords Go.Proofs.YtainifflpbkiiaaW.PrintLast Go.Proofs.YtainifflpbkiiaaW.PrintMore
attribute [local go_sem] max2_int min2_int max_two min_two max_three min_three max_four min_four   -- for this text's walks alone
set_option linter.unusedVariables false
set_option linter.unusedSimpArgs false

/-! ### yardlaw5_ScaleNear: function 6 -/
def yardlaw5_ScaleNear.j0 : Nat → Int → Int → Int → Bool → Option (Bool)
  | 0, _, _, _, _ => none
  | k + 1, x0, x1, x2, x32 => if x32 = true then ((yardlaw5_first.f k).bind fun t142 => (some t142)) else ((yardlaw5_p.f x0 x1 0).bind fun bt143 => ((scale_Apply.f k bt143.1 bt143.2.1 bt143.2.2.1 bt143.2.2.2.1 bt143.2.2.2.2.1 bt143.2.2.2.2.2.1 bt143.2.2.2.2.2.2.1 bt143.2.2.2.2.2.2.2 x2).bind fun t151 => ((yardlaw5_first.f k).bind fun t152 => (if t152 = true then (if (wrap64 (2 * (mx (wrap64 ((wrap64 (t151 * x1)) - (wrap64 (x2 * x0)))) (wrap64 (-(wrap64 ((wrap64 (t151 * x1)) - (wrap64 (x2 * x0))))))))) ≤ x1 then ((yardlaw5_p.f (wrap64 (-x0)) x1 0).bind fun bt153 => ((scale_Apply.f k bt153.1 bt153.2.1 bt153.2.2.1 bt153.2.2.2.1 bt153.2.2.2.2.1 bt153.2.2.2.2.2.1 bt153.2.2.2.2.2.2.1 bt153.2.2.2.2.2.2.2 x2).bind fun t161 => (if t161 = (wrap64 (-t151)) then ((yardlaw5_p.f x0 x1 0).bind fun bt162 => ((scale_Apply.f k bt162.1 bt162.2.1 bt162.2.2.1 bt162.2.2.2.1 bt162.2.2.2.2.1 bt162.2.2.2.2.2.1 bt162.2.2.2.2.2.2.1 bt162.2.2.2.2.2.2.2 (wrap64 (-x2))).bind fun t170 => (if t170 = (wrap64 (-t151)) then ((yardlaw5_p.f x0 x1 7).bind fun bt171 => ((scale_Apply.f k bt171.1 bt171.2.1 bt171.2.2.1 bt171.2.2.2.1 bt171.2.2.2.2.1 bt171.2.2.2.2.2.1 bt171.2.2.2.2.2.2.1 bt171.2.2.2.2.2.2.2 x2).bind fun t179 => (some (t179 == (wrap64 (t151 + 7)))))) else (some false)))) else (some false)))) else (some false)) else (some false)))))
def yardlaw5_ScaleNear.f (k : Nat) (a0 : Int) (a1 : Int) (a2 : Int) : Option (Bool) := (yardlaw5_first.f k).bind fun t141 => (if t141 = true then (if a0 < (-1000) then (yardlaw5_ScaleNear.j0 k a0 a1 a2 true) else (if a0 > 1000 then (yardlaw5_ScaleNear.j0 k a0 a1 a2 true) else (if a1 < 1 then (yardlaw5_ScaleNear.j0 k a0 a1 a2 true) else (if a1 > 1000 then (yardlaw5_ScaleNear.j0 k a0 a1 a2 true) else (if a2 < (-1048576) then (yardlaw5_ScaleNear.j0 k a0 a1 a2 true) else (yardlaw5_ScaleNear.j0 k a0 a1 a2 (decide (a2 > 1048576)))))))) else (some false))
theorem yardlaw5_ScaleNear.mono_l : ∀ k, (∀ y0 y1 y2 y3, LeO (yardlaw5_ScaleNear.j0 k y0 y1 y2 y3) (yardlaw5_ScaleNear.j0 (k + 1) y0 y1 y2 y3))
  | 0 => fun _ _ _ _ r h => by simp [yardlaw5_ScaleNear.j0] at h
  | k + 1 => by
    have ih0 := yardlaw5_ScaleNear.mono_l k
    · intro y0 y1 y2 y3
      unfold yardlaw5_ScaleNear.j0
      repeat' first
      | (with_reducible exact ih0 _ _ _ _)
      | (with_reducible exact scale_Apply.mono _ _ _ _ _ _ _ _ _ _)
      | (with_reducible exact yardlaw5_first.mono _)
      | (with_reducible exact LeO.refl _)
      | (with_reducible exact LeO.none _)
      | (with_reducible refine LeO.ite ?_ ?_)
      | (with_reducible refine LeO.bind ?_ (fun _ => ?_))
      | exact ih0 _ _ _ _
      | exact scale_Apply.mono _ _ _ _ _ _ _ _ _ _
      | exact yardlaw5_first.mono _
      | exact LeO.none _
      | refine LeO.ite ?_ ?_
      | refine LeO.bind ?_ (fun _ => ?_)
theorem yardlaw5_ScaleNear.mono : ∀ a0 a1 a2 k, LeO (yardlaw5_ScaleNear.f k a0 a1 a2) (yardlaw5_ScaleNear.f (k + 1) a0 a1 a2) := by
  intro a0 a1 a2 k
  have ih0 := yardlaw5_ScaleNear.mono_l k
  unfold yardlaw5_ScaleNear.f
  repeat' first
      | (with_reducible exact ih0 _ _ _ _)
      | (with_reducible exact scale_Apply.mono _ _ _ _ _ _ _ _ _ _)
      | (with_reducible exact yardlaw5_first.mono _)
      | (with_reducible exact LeO.refl _)
      | (with_reducible exact LeO.none _)
      | (with_reducible refine LeO.ite ?_ ?_)
      | (with_reducible refine LeO.bind ?_ (fun _ => ?_))
      | exact ih0 _ _ _ _
      | exact scale_Apply.mono _ _ _ _ _ _ _ _ _ _
      | exact yardlaw5_first.mono _
      | exact LeO.none _
      | refine LeO.ite ?_ ?_
      | refine LeO.bind ?_ (fun _ => ?_)
set_option maxHeartbeats 8000000 in
set_option maxRecDepth 100000 in
theorem yardlaw5_ScaleNear.calls (k : Nat) (a0 : Int) (a1 : Int) (a2 : Int) (r : Bool) (w : World) (h : yardlaw5_ScaleNear.f k a0 a1 a2 = some r) :
    Calls Try.prog 6 #[.int .i64 a0, .int .i64 a1, .int .i64 a2] w fun e w' => e = .returned (.bool r) ∧ Below w.heap.size w w' := by
  have HB := Aside0.mk (Below.refl w.heap.size w)
  have H : ((yardlaw5_first.f k).bind fun t141 => (if t141 = true then (if a0 < (-1000) then (yardlaw5_ScaleNear.j0 k a0 a1 a2 true) else (if a0 > 1000 then (yardlaw5_ScaleNear.j0 k a0 a1 a2 true) else (if a1 < 1 then (yardlaw5_ScaleNear.j0 k a0 a1 a2 true) else (if a1 > 1000 then (yardlaw5_ScaleNear.j0 k a0 a1 a2 true) else (if a2 < (-1048576) then (yardlaw5_ScaleNear.j0 k a0 a1 a2 true) else (yardlaw5_ScaleNear.j0 k a0 a1 a2 (decide (a2 > 1048576)))))))) else (some false))) = some r := h
  clear h
  replace H := Option.bind_eq_some_iff.mp H
  obtain ⟨t141, A40, H⟩ := H
  replace H : (if t141 = true then (if a0 < (-1000) then (yardlaw5_ScaleNear.j0 k a0 a1 a2 true) else (if a0 > 1000 then (yardlaw5_ScaleNear.j0 k a0 a1 a2 true) else (if a1 < 1 then (yardlaw5_ScaleNear.j0 k a0 a1 a2 true) else (if a1 > 1000 then (yardlaw5_ScaleNear.j0 k a0 a1 a2 true) else (if a2 < (-1048576) then (yardlaw5_ScaleNear.j0 k a0 a1 a2 true) else (yardlaw5_ScaleNear.j0 k a0 a1 a2 (decide (a2 > 1048576)))))))) else (some false)) = some r := H
  have A4 := Aside0.mk A40
  clear A40
  by_cases c5 : t141 = true
  · subst c5
    have H1 : (if a0 < (-1000) then (yardlaw5_ScaleNear.j0 k a0 a1 a2 true) else (if a0 > 1000 then (yardlaw5_ScaleNear.j0 k a0 a1 a2 true) else (if a1 < 1 then (yardlaw5_ScaleNear.j0 k a0 a1 a2 true) else (if a1 > 1000 then (yardlaw5_ScaleNear.j0 k a0 a1 a2 true) else (if a2 < (-1048576) then (yardlaw5_ScaleNear.j0 k a0 a1 a2 true) else (yardlaw5_ScaleNear.j0 k a0 a1 a2 (decide (a2 > 1048576)))))))) = some r := by rw [if_pos rfl] at H; exact H
    clear H
    have H := H1
    clear H1
    have HC6 := Aside0.mk H
    clear H
    go_enter Try.func6, Try.ntmps6
    go_upto_region 3 with (first | ((with_reducible refine gate_callee (f := 12) rfl ?_); refine goesL_ (some 9) rfl rfl Try.func12 (by kernel_rfl) rfl #[] rfl (by (try simp only [List.map_toArray, List.map_cons, List.map_nil]); first | done | rfl | (simp only [List.length_drop, List.length_take]; rfl)) ?_; (with_reducible refine (yardlaw5_first.calls k  true _ A4.out).mono ?_); rintro e w7 ⟨rfl, hb⟩; refine ⟨_, rfl, ?_⟩; have n0_ := Aside0.mk (below_step (by repeat (first | (with_reducible first | exact HB.out | apply below_alloc | apply pw_below_drewN | apply below_drew1) | exact HB.out)) hb); clear HB; have HB := n0_; clear n0_; (try clear hb); (try clear hb2); (try clear hk); (try clear hi)))
    (try simp only [Act.put, List.setIfInBounds_toArray, List.set_cons_zero, List.set_cons_succ])
    go_cut [32] (fun v32 wc => ∃ (kq : Nat) (x32_5 : Bool), v32 = .bool x32_5 ∧ Aside0 (yardlaw5_ScaleNear.j0 kq a0 a1 a2 x32_5 = some r) ∧ Aside0 (kq ≤ k) ∧ Aside0 (Below w.heap.size w wc))
    case first =>
      have H := HC6.out
      clear HC6
      by_cases c8 : a0 < (-1000)
      · rw [if_pos c8] at H
        have c8b0 : decide (a0 < (-1000)) = true := decide_eq_true c8
        clear c8
        (first | rw [c8b0] | (simp only [i64_w, i32_w]; rw [c8b0]) | skip)
        have H' := Aside0.mk H
        clear H
        go_wp2
        go_meet
        case rel => exact ⟨_, (true), (by first | rfl | (simp; done) | (simp [*]; done)), H', ⟨by first | omega | exact Nat.le_refl _⟩, ⟨by repeat (first | (with_reducible first | exact HB.out | apply below_alloc | apply pw_below_drewN | apply below_drew1) | exact HB.out)⟩⟩
      · rw [if_neg c8] at H
        have c8b0 : decide (a0 < (-1000)) = false := decide_eq_false c8
        clear c8
        (first | rw [c8b0] | (simp only [i64_w, i32_w]; rw [c8b0]) | skip)
        by_cases c9 : a0 > 1000
        · rw [if_pos c9] at H
          have c9b0 : decide (1000 < a0) = true := decide_eq_true c9
          clear c9
          have H' := Aside0.mk H
          clear H
          go_wp2
          go_meet
          case rel => exact ⟨_, (true), (by first | rfl | (simp; done) | (simp [*]; done)), H', ⟨by first | omega | exact Nat.le_refl _⟩, ⟨by repeat (first | (with_reducible first | exact HB.out | apply below_alloc | apply pw_below_drewN | apply below_drew1) | exact HB.out)⟩⟩
        · rw [if_neg c9] at H
          have c9b0 : decide (1000 < a0) = false := decide_eq_false c9
          clear c9
          by_cases c10 : a1 < 1
          · rw [if_pos c10] at H
            have c10b0 : decide (a1 < 1) = true := decide_eq_true c10
            clear c10
            have H' := Aside0.mk H
            clear H
            go_wp2
            go_meet
            case rel => exact ⟨_, (true), (by first | rfl | (simp; done) | (simp [*]; done)), H', ⟨by first | omega | exact Nat.le_refl _⟩, ⟨by repeat (first | (with_reducible first | exact HB.out | apply below_alloc | apply pw_below_drewN | apply below_drew1) | exact HB.out)⟩⟩
          · rw [if_neg c10] at H
            have c10b0 : decide (a1 < 1) = false := decide_eq_false c10
            clear c10
            by_cases c11 : a1 > 1000
            · rw [if_pos c11] at H
              have c11b0 : decide (1000 < a1) = true := decide_eq_true c11
              clear c11
              have H' := Aside0.mk H
              clear H
              go_wp2
              go_meet
              case rel => exact ⟨_, (true), (by first | rfl | (simp; done) | (simp [*]; done)), H', ⟨by first | omega | exact Nat.le_refl _⟩, ⟨by repeat (first | (with_reducible first | exact HB.out | apply below_alloc | apply pw_below_drewN | apply below_drew1) | exact HB.out)⟩⟩
            · rw [if_neg c11] at H
              have c11b0 : decide (1000 < a1) = false := decide_eq_false c11
              clear c11
              by_cases c12 : a2 < (-1048576)
              · rw [if_pos c12] at H
                have c12b0 : decide (a2 < (-1048576)) = true := decide_eq_true c12
                clear c12
                have H' := Aside0.mk H
                clear H
                go_wp2
                go_meet
                case rel => exact ⟨_, (true), (by first | rfl | (simp; done) | (simp [*]; done)), H', ⟨by first | omega | exact Nat.le_refl _⟩, ⟨by repeat (first | (with_reducible first | exact HB.out | apply below_alloc | apply pw_below_drewN | apply below_drew1) | exact HB.out)⟩⟩
              · rw [if_neg c12] at H
                have c12b0 : decide (a2 < (-1048576)) = false := decide_eq_false c12
                clear c12
                have H' := Aside0.mk H
                clear H
                go_wp2
                go_meet
                case rel => exact ⟨_, (decide (a2 > 1048576)), (by first | rfl | (simp; done) | (simp [*]; done)), H', ⟨by first | omega | exact Nat.le_refl _⟩, ⟨by repeat (first | (with_reducible first | exact HB.out | apply below_alloc | apply pw_below_drewN | apply below_drew1) | exact HB.out)⟩⟩
    case rest =>
      clear HC6
      try clear c1
      try clear p2
      try clear c5
      try clear c6
      try clear c8
      try clear c8b0
      try clear c9
      try clear c9b0
      try clear c10
      try clear c10b0
      try clear c11
      try clear c11b0
      try clear c12
      try clear c12b0
      obtain ⟨kq, x32_5, rfl, HA, HJ5, HB⟩ := hcut
      cases kq with
      | zero => exact absurd HA.out (by simp [yardlaw5_ScaleNear.j0])
      | succ kj5 =>
        have H := HA.out
        clear HA
        simp only [yardlaw5_ScaleNear.j0] at H
        by_cases c13 : x32_5 = true
        · subst c13
          have H1 : ((yardlaw5_first.f kj5).bind fun t142 => (some t142)) = some r := by rw [if_pos rfl] at H; exact H
          clear H
          have H := H1
          clear H1
          replace H := Option.bind_eq_some_iff.mp H
          obtain ⟨t142, A140, H⟩ := H
          replace H : (some t142) = some r := H
          have A14 := Aside0.mk A140
          clear A140
          obtain rfl := Option.some.inj H
          go_wp2_with (first | ((with_reducible refine gate_callee (f := 12) rfl ?_); refine goesL_ (some 33) rfl rfl Try.func12 (by kernel_rfl) rfl #[] rfl (by (try simp only [List.map_toArray, List.map_cons, List.map_nil]); first | done | rfl | (simp only [List.length_drop, List.length_take]; rfl)) ?_; (with_reducible refine (yardlaw5_first.calls kj5  t142 _ A14.out).mono ?_); rintro e w15 ⟨rfl, hb⟩; refine ⟨_, rfl, ?_⟩; have n0_ := Aside0.mk (below_step (by repeat (first | (with_reducible first | exact HB.out | apply below_alloc | apply pw_below_drewN | apply below_drew1) | exact HB.out)) hb); clear HB; have HB := n0_; clear n0_; (try clear hb); (try clear hb2); (try clear hk); (try clear hi)))
          go_ret
          exact ⟨by first | rfl | (simp [errW_none, errW_some] <;> rfl) | (simp [*, errW_none, errW_some] <;> rfl), by repeat (first | (with_reducible first | exact HB.out | apply below_alloc | apply pw_below_drewN | apply below_drew1) | exact HB.out)⟩
        · replace c13 := Bool.eq_false_iff.mpr c13
          subst c13
          have H1 : ((yardlaw5_p.f a0 a1 0).bind fun bt143 => ((scale_Apply.f kj5 bt143.1 bt143.2.1 bt143.2.2.1 bt143.2.2.2.1 bt143.2.2.2.2.1 bt143.2.2.2.2.2.1 bt143.2.2.2.2.2.2.1 bt143.2.2.2.2.2.2.2 a2).bind fun t151 => ((yardlaw5_first.f kj5).bind fun t152 => (if t152 = true then (if (wrap64 (2 * (mx (wrap64 ((wrap64 (t151 * a1)) - (wrap64 (a2 * a0)))) (wrap64 (-(wrap64 ((wrap64 (t151 * a1)) - (wrap64 (a2 * a0))))))))) ≤ a1 then ((yardlaw5_p.f (wrap64 (-a0)) a1 0).bind fun bt153 => ((scale_Apply.f kj5 bt153.1 bt153.2.1 bt153.2.2.1 bt153.2.2.2.1 bt153.2.2.2.2.1 bt153.2.2.2.2.2.1 bt153.2.2.2.2.2.2.1 bt153.2.2.2.2.2.2.2 a2).bind fun t161 => (if t161 = (wrap64 (-t151)) then ((yardlaw5_p.f a0 a1 0).bind fun bt162 => ((scale_Apply.f kj5 bt162.1 bt162.2.1 bt162.2.2.1 bt162.2.2.2.1 bt162.2.2.2.2.1 bt162.2.2.2.2.2.1 bt162.2.2.2.2.2.2.1 bt162.2.2.2.2.2.2.2 (wrap64 (-a2))).bind fun t170 => (if t170 = (wrap64 (-t151)) then ((yardlaw5_p.f a0 a1 7).bind fun bt171 => ((scale_Apply.f kj5 bt171.1 bt171.2.1 bt171.2.2.1 bt171.2.2.2.1 bt171.2.2.2.2.1 bt171.2.2.2.2.2.1 bt171.2.2.2.2.2.2.1 bt171.2.2.2.2.2.2.2 a2).bind fun t179 => (some (t179 == (wrap64 (t151 + 7)))))) else (some false)))) else (some false)))) else (some false)) else (some false))))) = some r := by rw [if_neg (show ¬ (false = true) by decide)] at H; exact H
          clear H
          have H := H1
          clear H1
          replace H := Option.bind_eq_some_iff.mp H
          obtain ⟨⟨t143, t144, t145, t146, t147, t148, t149, t150⟩, A160, H⟩ := H
          replace H : ((scale_Apply.f kj5 t143 t144 t145 t146 t147 t148 t149 t150 a2).bind fun t151 => ((yardlaw5_first.f kj5).bind fun t152 => (if t152 = true then (if (wrap64 (2 * (mx (wrap64 ((wrap64 (t151 * a1)) - (wrap64 (a2 * a0)))) (wrap64 (-(wrap64 ((wrap64 (t151 * a1)) - (wrap64 (a2 * a0))))))))) ≤ a1 then ((yardlaw5_p.f (wrap64 (-a0)) a1 0).bind fun bt153 => ((scale_Apply.f kj5 bt153.1 bt153.2.1 bt153.2.2.1 bt153.2.2.2.1 bt153.2.2.2.2.1 bt153.2.2.2.2.2.1 bt153.2.2.2.2.2.2.1 bt153.2.2.2.2.2.2.2 a2).bind fun t161 => (if t161 = (wrap64 (-t151)) then ((yardlaw5_p.f a0 a1 0).bind fun bt162 => ((scale_Apply.f kj5 bt162.1 bt162.2.1 bt162.2.2.1 bt162.2.2.2.1 bt162.2.2.2.2.1 bt162.2.2.2.2.2.1 bt162.2.2.2.2.2.2.1 bt162.2.2.2.2.2.2.2 (wrap64 (-a2))).bind fun t170 => (if t170 = (wrap64 (-t151)) then ((yardlaw5_p.f a0 a1 7).bind fun bt171 => ((scale_Apply.f kj5 bt171.1 bt171.2.1 bt171.2.2.1 bt171.2.2.2.1 bt171.2.2.2.2.1 bt171.2.2.2.2.2.1 bt171.2.2.2.2.2.2.1 bt171.2.2.2.2.2.2.2 a2).bind fun t179 => (some (t179 == (wrap64 (t151 + 7)))))) else (some false)))) else (some false)))) else (some false)) else (some false)))) = some r := H
          have A16 := Aside0.mk A160
          clear A160
          replace H := Option.bind_eq_some_iff.mp H
          obtain ⟨t151, A170, H⟩ := H
          replace H : ((yardlaw5_first.f kj5).bind fun t152 => (if t152 = true then (if (wrap64 (2 * (mx (wrap64 ((wrap64 (t151 * a1)) - (wrap64 (a2 * a0)))) (wrap64 (-(wrap64 ((wrap64 (t151 * a1)) - (wrap64 (a2 * a0))))))))) ≤ a1 then ((yardlaw5_p.f (wrap64 (-a0)) a1 0).bind fun bt153 => ((scale_Apply.f kj5 bt153.1 bt153.2.1 bt153.2.2.1 bt153.2.2.2.1 bt153.2.2.2.2.1 bt153.2.2.2.2.2.1 bt153.2.2.2.2.2.2.1 bt153.2.2.2.2.2.2.2 a2).bind fun t161 => (if t161 = (wrap64 (-t151)) then ((yardlaw5_p.f a0 a1 0).bind fun bt162 => ((scale_Apply.f kj5 bt162.1 bt162.2.1 bt162.2.2.1 bt162.2.2.2.1 bt162.2.2.2.2.1 bt162.2.2.2.2.2.1 bt162.2.2.2.2.2.2.1 bt162.2.2.2.2.2.2.2 (wrap64 (-a2))).bind fun t170 => (if t170 = (wrap64 (-t151)) then ((yardlaw5_p.f a0 a1 7).bind fun bt171 => ((scale_Apply.f kj5 bt171.1 bt171.2.1 bt171.2.2.1 bt171.2.2.2.1 bt171.2.2.2.2.1 bt171.2.2.2.2.2.1 bt171.2.2.2.2.2.2.1 bt171.2.2.2.2.2.2.2 a2).bind fun t179 => (some (t179 == (wrap64 (t151 + 7)))))) else (some false)))) else (some false)))) else (some false)) else (some false))) = some r := H
          have A17 := Aside0.mk A170
          clear A170
          replace H := Option.bind_eq_some_iff.mp H
          obtain ⟨t152, A180, H⟩ := H
          replace H : (if t152 = true then (if (wrap64 (2 * (mx (wrap64 ((wrap64 (t151 * a1)) - (wrap64 (a2 * a0)))) (wrap64 (-(wrap64 ((wrap64 (t151 * a1)) - (wrap64 (a2 * a0))))))))) ≤ a1 then ((yardlaw5_p.f (wrap64 (-a0)) a1 0).bind fun bt153 => ((scale_Apply.f kj5 bt153.1 bt153.2.1 bt153.2.2.1 bt153.2.2.2.1 bt153.2.2.2.2.1 bt153.2.2.2.2.2.1 bt153.2.2.2.2.2.2.1 bt153.2.2.2.2.2.2.2 a2).bind fun t161 => (if t161 = (wrap64 (-t151)) then ((yardlaw5_p.f a0 a1 0).bind fun bt162 => ((scale_Apply.f kj5 bt162.1 bt162.2.1 bt162.2.2.1 bt162.2.2.2.1 bt162.2.2.2.2.1 bt162.2.2.2.2.2.1 bt162.2.2.2.2.2.2.1 bt162.2.2.2.2.2.2.2 (wrap64 (-a2))).bind fun t170 => (if t170 = (wrap64 (-t151)) then ((yardlaw5_p.f a0 a1 7).bind fun bt171 => ((scale_Apply.f kj5 bt171.1 bt171.2.1 bt171.2.2.1 bt171.2.2.2.1 bt171.2.2.2.2.1 bt171.2.2.2.2.2.1 bt171.2.2.2.2.2.2.1 bt171.2.2.2.2.2.2.2 a2).bind fun t179 => (some (t179 == (wrap64 (t151 + 7)))))) else (some false)))) else (some false)))) else (some false)) else (some false)) = some r := H
          have A18 := Aside0.mk A180
          clear A180
          by_cases c19 : t152 = true
          · subst c19
            have H1 : (if (wrap64 (2 * (mx (wrap64 ((wrap64 (t151 * a1)) - (wrap64 (a2 * a0)))) (wrap64 (-(wrap64 ((wrap64 (t151 * a1)) - (wrap64 (a2 * a0))))))))) ≤ a1 then ((yardlaw5_p.f (wrap64 (-a0)) a1 0).bind fun bt153 => ((scale_Apply.f kj5 bt153.1 bt153.2.1 bt153.2.2.1 bt153.2.2.2.1 bt153.2.2.2.2.1 bt153.2.2.2.2.2.1 bt153.2.2.2.2.2.2.1 bt153.2.2.2.2.2.2.2 a2).bind fun t161 => (if t161 = (wrap64 (-t151)) then ((yardlaw5_p.f a0 a1 0).bind fun bt162 => ((scale_Apply.f kj5 bt162.1 bt162.2.1 bt162.2.2.1 bt162.2.2.2.1 bt162.2.2.2.2.1 bt162.2.2.2.2.2.1 bt162.2.2.2.2.2.2.1 bt162.2.2.2.2.2.2.2 (wrap64 (-a2))).bind fun t170 => (if t170 = (wrap64 (-t151)) then ((yardlaw5_p.f a0 a1 7).bind fun bt171 => ((scale_Apply.f kj5 bt171.1 bt171.2.1 bt171.2.2.1 bt171.2.2.2.1 bt171.2.2.2.2.1 bt171.2.2.2.2.2.1 bt171.2.2.2.2.2.2.1 bt171.2.2.2.2.2.2.2 a2).bind fun t179 => (some (t179 == (wrap64 (t151 + 7)))))) else (some false)))) else (some false)))) else (some false)) = some r := by rw [if_pos rfl] at H; exact H
            clear H
            have H := H1
            clear H1
            obtain ⟨ji20, hji20⟩ : ∃ j_ : Int, (mx (wrap64 ((wrap64 (t151 * a1)) - (wrap64 (a2 * a0)))) (wrap64 (-(wrap64 ((wrap64 (t151 * a1)) - (wrap64 (a2 * a0))))))) = j_ := ⟨_, rfl⟩
            replace H : (if (wrap64 (2 * (ji20))) ≤ a1 then ((yardlaw5_p.f (wrap64 (-a0)) a1 0).bind fun bt153 => ((scale_Apply.f kj5 bt153.1 bt153.2.1 bt153.2.2.1 bt153.2.2.2.1 bt153.2.2.2.2.1 bt153.2.2.2.2.2.1 bt153.2.2.2.2.2.2.1 bt153.2.2.2.2.2.2.2 a2).bind fun t161 => (if t161 = (wrap64 (-t151)) then ((yardlaw5_p.f a0 a1 0).bind fun bt162 => ((scale_Apply.f kj5 bt162.1 bt162.2.1 bt162.2.2.1 bt162.2.2.2.1 bt162.2.2.2.2.1 bt162.2.2.2.2.2.1 bt162.2.2.2.2.2.2.1 bt162.2.2.2.2.2.2.2 (wrap64 (-a2))).bind fun t170 => (if t170 = (wrap64 (-t151)) then ((yardlaw5_p.f a0 a1 7).bind fun bt171 => ((scale_Apply.f kj5 bt171.1 bt171.2.1 bt171.2.2.1 bt171.2.2.2.1 bt171.2.2.2.2.1 bt171.2.2.2.2.2.1 bt171.2.2.2.2.2.2.1 bt171.2.2.2.2.2.2.2 a2).bind fun t179 => (some (t179 == (wrap64 (t151 + 7)))))) else (some false)))) else (some false)))) else (some false)) = some r := by first | (rw [hji20] at H; exact H) | (simp only [hji20] at H ⊢; exact H)
            (try rw [hji20] at A16)
            (try rw [hji20] at A17)
            (try rw [hji20] at A18)
            have hji20_ : (if (wrap64 ((wrap64 (t151 * a1)) - (wrap64 (a2 * a0)))) < (wrap64 (-(wrap64 ((wrap64 (t151 * a1)) - (wrap64 (a2 * a0)))))) then (wrap64 (-(wrap64 ((wrap64 (t151 * a1)) - (wrap64 (a2 * a0)))))) else (wrap64 ((wrap64 (t151 * a1)) - (wrap64 (a2 * a0))))) = ji20 := hji20
            by_cases c21 : (wrap64 (2 * (ji20))) ≤ a1
            · rw [if_pos c21] at H
              have c21b0 : decide ((wrap64 (2 * (ji20))) ≤ a1) = true := decide_eq_true c21
              clear c21
              replace H := Option.bind_eq_some_iff.mp H
              obtain ⟨⟨t153, t154, t155, t156, t157, t158, t159, t160⟩, A220, H⟩ := H
              replace H : ((scale_Apply.f kj5 t153 t154 t155 t156 t157 t158 t159 t160 a2).bind fun t161 => (if t161 = (wrap64 (-t151)) then ((yardlaw5_p.f a0 a1 0).bind fun bt162 => ((scale_Apply.f kj5 bt162.1 bt162.2.1 bt162.2.2.1 bt162.2.2.2.1 bt162.2.2.2.2.1 bt162.2.2.2.2.2.1 bt162.2.2.2.2.2.2.1 bt162.2.2.2.2.2.2.2 (wrap64 (-a2))).bind fun t170 => (if t170 = (wrap64 (-t151)) then ((yardlaw5_p.f a0 a1 7).bind fun bt171 => ((scale_Apply.f kj5 bt171.1 bt171.2.1 bt171.2.2.1 bt171.2.2.2.1 bt171.2.2.2.2.1 bt171.2.2.2.2.2.1 bt171.2.2.2.2.2.2.1 bt171.2.2.2.2.2.2.2 a2).bind fun t179 => (some (t179 == (wrap64 (t151 + 7)))))) else (some false)))) else (some false))) = some r := H
              have A22 := Aside0.mk A220
              clear A220
              replace H := Option.bind_eq_some_iff.mp H
              obtain ⟨t161, A230, H⟩ := H
              replace H : (if t161 = (wrap64 (-t151)) then ((yardlaw5_p.f a0 a1 0).bind fun bt162 => ((scale_Apply.f kj5 bt162.1 bt162.2.1 bt162.2.2.1 bt162.2.2.2.1 bt162.2.2.2.2.1 bt162.2.2.2.2.2.1 bt162.2.2.2.2.2.2.1 bt162.2.2.2.2.2.2.2 (wrap64 (-a2))).bind fun t170 => (if t170 = (wrap64 (-t151)) then ((yardlaw5_p.f a0 a1 7).bind fun bt171 => ((scale_Apply.f kj5 bt171.1 bt171.2.1 bt171.2.2.1 bt171.2.2.2.1 bt171.2.2.2.2.1 bt171.2.2.2.2.2.1 bt171.2.2.2.2.2.2.1 bt171.2.2.2.2.2.2.2 a2).bind fun t179 => (some (t179 == (wrap64 (t151 + 7)))))) else (some false)))) else (some false)) = some r := H
              have A23 := Aside0.mk A230
              clear A230
              by_cases c24 : t161 = (wrap64 (-t151))
              · rw [if_pos c24] at H
                have c24b0 : (t161 == (wrap64 (-t151))) = true := beq_iff_eq.mpr c24
                have c24b1 : (t161 != (wrap64 (-t151))) = false := bne_eq_false_iff_eq.mpr c24
                clear c24
                replace H := Option.bind_eq_some_iff.mp H
                obtain ⟨⟨t162, t163, t164, t165, t166, t167, t168, t169⟩, A250, H⟩ := H
                replace H : ((scale_Apply.f kj5 t162 t163 t164 t165 t166 t167 t168 t169 (wrap64 (-a2))).bind fun t170 => (if t170 = (wrap64 (-t151)) then ((yardlaw5_p.f a0 a1 7).bind fun bt171 => ((scale_Apply.f kj5 bt171.1 bt171.2.1 bt171.2.2.1 bt171.2.2.2.1 bt171.2.2.2.2.1 bt171.2.2.2.2.2.1 bt171.2.2.2.2.2.2.1 bt171.2.2.2.2.2.2.2 a2).bind fun t179 => (some (t179 == (wrap64 (t151 + 7)))))) else (some false))) = some r := H
                have A25 := Aside0.mk A250
                clear A250
                replace H := Option.bind_eq_some_iff.mp H
                obtain ⟨t170, A260, H⟩ := H
                replace H : (if t170 = (wrap64 (-t151)) then ((yardlaw5_p.f a0 a1 7).bind fun bt171 => ((scale_Apply.f kj5 bt171.1 bt171.2.1 bt171.2.2.1 bt171.2.2.2.1 bt171.2.2.2.2.1 bt171.2.2.2.2.2.1 bt171.2.2.2.2.2.2.1 bt171.2.2.2.2.2.2.2 a2).bind fun t179 => (some (t179 == (wrap64 (t151 + 7)))))) else (some false)) = some r := H
                have A26 := Aside0.mk A260
                clear A260
                by_cases c27 : t170 = (wrap64 (-t151))
                · rw [if_pos c27] at H
                  have c27b0 : (t170 == (wrap64 (-t151))) = true := beq_iff_eq.mpr c27
                  have c27b1 : (t170 != (wrap64 (-t151))) = false := bne_eq_false_iff_eq.mpr c27
                  clear c27
                  replace H := Option.bind_eq_some_iff.mp H
                  obtain ⟨⟨t171, t172, t173, t174, t175, t176, t177, t178⟩, A280, H⟩ := H
                  replace H : ((scale_Apply.f kj5 t171 t172 t173 t174 t175 t176 t177 t178 a2).bind fun t179 => (some (t179 == (wrap64 (t151 + 7))))) = some r := H
                  have A28 := Aside0.mk A280
                  clear A280
                  replace H := Option.bind_eq_some_iff.mp H
                  obtain ⟨t179, A290, H⟩ := H
                  replace H : (some (t179 == (wrap64 (t151 + 7)))) = some r := H
                  have A29 := Aside0.mk A290
                  clear A290
                  obtain rfl := Option.some.inj H
                  go_wp2_with (first | ((with_reducible refine gate_callee (f := 23) rfl ?_); refine goesL_ (some 36) rfl rfl Try.func23 (by kernel_rfl) rfl #[.int .i64 a0, .int .i64 a1, .int .i64 0] rfl (by (try simp only [List.map_toArray, List.map_cons, List.map_nil]); first | done | rfl | (simp only [List.length_drop, List.length_take]; rfl)) ?_; (with_reducible refine (yardlaw5_p.calls a0 a1 0 t143 t144 t145 t146 t147 t148 t149 t150 _ A16.out).mono ?_); rintro e w30 ⟨rfl, hb⟩; refine ⟨_, rfl, ?_⟩; have n0_ := Aside0.mk (below_step (by repeat (first | (with_reducible first | exact HB.out | apply below_alloc | apply pw_below_drewN | apply below_drew1) | exact HB.out)) hb); clear HB; have HB := n0_; clear n0_; (try clear hb); (try clear hb2); (try clear hk); (try clear hi)) | ((with_reducible refine gate_callee (f := 15) rfl ?_); refine goesL_ (some 38) rfl rfl Try.func15 (by kernel_rfl) rfl #[.agg #[.int .i64 t143, .int .i64 t144, .int .i64 t145, .int .i64 t146, .int .i64 t147, .int .i64 t148, .int .i64 t149, .int .i64 t150], .int .i64 a2] rfl (by (try simp only [List.map_toArray, List.map_cons, List.map_nil]); first | done | rfl | (simp only [List.length_drop, List.length_take]; rfl)) ?_; (with_reducible refine (scale_Apply.calls kj5 t143 t144 t145 t146 t147 t148 t149 t150 a2 t151 _ A17.out).mono ?_); rintro e w31 ⟨rfl, hb⟩; refine ⟨_, rfl, ?_⟩; have n0_ := Aside0.mk (below_step (by repeat (first | (with_reducible first | exact HB.out | apply below_alloc | apply pw_below_drewN | apply below_drew1) | exact HB.out)) hb); clear HB; have HB := n0_; clear n0_; (try clear hb); (try clear hb2); (try clear hk); (try clear hi)) | ((with_reducible refine gate_callee (f := 12) rfl ?_); refine goesL_ (some 46) rfl rfl Try.func12 (by kernel_rfl) rfl #[] rfl (by (try simp only [List.map_toArray, List.map_cons, List.map_nil]); first | done | rfl | (simp only [List.length_drop, List.length_take]; rfl)) ?_; (with_reducible refine (yardlaw5_first.calls kj5  true _ A18.out).mono ?_); rintro e w32 ⟨rfl, hb⟩; refine ⟨_, rfl, ?_⟩; have n0_ := Aside0.mk (below_step (by repeat (first | (with_reducible first | exact HB.out | apply below_alloc | apply pw_below_drewN | apply below_drew1) | exact HB.out)) hb); clear HB; have HB := n0_; clear n0_; (try clear hb); (try clear hb2); (try clear hk); (try clear hi)) | (go_at_call 23; (with_reducible refine (yardlaw5_p.calls (wrap64 (-a0)) a1 0 t153 t154 t155 t156 t157 t158 t159 t160 _ A22.out).mono ?_); rintro e w33 ⟨rfl, hb⟩; have n0_ := Aside0.mk (below_step (by repeat (first | (with_reducible first | exact HB.out | apply below_alloc | apply pw_below_drewN | apply below_drew1) | exact HB.out)) hb); clear HB; have HB := n0_; clear n0_; (try clear hb); (try clear hb2); (try clear hk); (try clear hi)) | (go_at_call 15; (with_reducible refine (scale_Apply.calls kj5 t153 t154 t155 t156 t157 t158 t159 t160 a2 t161 _ A23.out).mono ?_); rintro e w34 ⟨rfl, hb⟩; have n0_ := Aside0.mk (below_step (by repeat (first | (with_reducible first | exact HB.out | apply below_alloc | apply pw_below_drewN | apply below_drew1) | exact HB.out)) hb); clear HB; have HB := n0_; clear n0_; (try clear hb); (try clear hb2); (try clear hk); (try clear hi)) | (go_at_call 23; (with_reducible refine (yardlaw5_p.calls a0 a1 0 t162 t163 t164 t165 t166 t167 t168 t169 _ A25.out).mono ?_); rintro e w35 ⟨rfl, hb⟩; have n0_ := Aside0.mk (below_step (by repeat (first | (with_reducible first | exact HB.out | apply below_alloc | apply pw_below_drewN | apply below_drew1) | exact HB.out)) hb); clear HB; have HB := n0_; clear n0_; (try clear hb); (try clear hb2); (try clear hk); (try clear hi)) | (go_at_call 15; (with_reducible refine (scale_Apply.calls kj5 t162 t163 t164 t165 t166 t167 t168 t169 (wrap64 (-a2)) t170 _ A26.out).mono ?_); rintro e w36 ⟨rfl, hb⟩; have n0_ := Aside0.mk (below_step (by repeat (first | (with_reducible first | exact HB.out | apply below_alloc | apply pw_below_drewN | apply below_drew1) | exact HB.out)) hb); clear HB; have HB := n0_; clear n0_; (try clear hb); (try clear hb2); (try clear hk); (try clear hi)) | (go_at_call 23; (with_reducible refine (yardlaw5_p.calls a0 a1 7 t171 t172 t173 t174 t175 t176 t177 t178 _ A28.out).mono ?_); rintro e w37 ⟨rfl, hb⟩; have n0_ := Aside0.mk (below_step (by repeat (first | (with_reducible first | exact HB.out | apply below_alloc | apply pw_below_drewN | apply below_drew1) | exact HB.out)) hb); clear HB; have HB := n0_; clear n0_; (try clear hb); (try clear hb2); (try clear hk); (try clear hi)) | (go_at_call 15; (with_reducible refine (scale_Apply.calls kj5 t171 t172 t173 t174 t175 t176 t177 t178 a2 t179 _ A29.out).mono ?_); rintro e w38 ⟨rfl, hb⟩; have n0_ := Aside0.mk (below_step (by repeat (first | (with_reducible first | exact HB.out | apply below_alloc | apply pw_below_drewN | apply below_drew1) | exact HB.out)) hb); clear HB; have HB := n0_; clear n0_; (try clear hb); (try clear hb2); (try clear hk); (try clear hi)))
                  go_ret
                  exact ⟨by first | rfl | (simp [errW_none, errW_some] <;> rfl) | (simp only [← hji20]; first | rfl | (simp [errW_none, errW_some] <;> rfl)) | (simp [*, errW_none, errW_some] <;> rfl), by repeat (first | (with_reducible first | exact HB.out | apply below_alloc | apply pw_below_drewN | apply below_drew1) | exact HB.out)⟩
                · rw [if_neg c27] at H
                  have c27b0 : (t170 == (wrap64 (-t151))) = false := beq_eq_false_iff_ne.mpr c27
                  have c27b1 : (t170 != (wrap64 (-t151))) = true := bne_iff_ne.mpr c27
                  obtain rfl := Option.some.inj H
                  go_wp2_with (first | ((with_reducible refine gate_callee (f := 23) rfl ?_); refine goesL_ (some 36) rfl rfl Try.func23 (by kernel_rfl) rfl #[.int .i64 a0, .int .i64 a1, .int .i64 0] rfl (by (try simp only [List.map_toArray, List.map_cons, List.map_nil]); first | done | rfl | (simp only [List.length_drop, List.length_take]; rfl)) ?_; (with_reducible refine (yardlaw5_p.calls a0 a1 0 t143 t144 t145 t146 t147 t148 t149 t150 _ A16.out).mono ?_); rintro e w39 ⟨rfl, hb⟩; refine ⟨_, rfl, ?_⟩; have n0_ := Aside0.mk (below_step (by repeat (first | (with_reducible first | exact HB.out | apply below_alloc | apply pw_below_drewN | apply below_drew1) | exact HB.out)) hb); clear HB; have HB := n0_; clear n0_; (try clear hb); (try clear hb2); (try clear hk); (try clear hi)) | ((with_reducible refine gate_callee (f := 15) rfl ?_); refine goesL_ (some 38) rfl rfl Try.func15 (by kernel_rfl) rfl #[.agg #[.int .i64 t143, .int .i64 t144, .int .i64 t145, .int .i64 t146, .int .i64 t147, .int .i64 t148, .int .i64 t149, .int .i64 t150], .int .i64 a2] rfl (by (try simp only [List.map_toArray, List.map_cons, List.map_nil]); first | done | rfl | (simp only [List.length_drop, List.length_take]; rfl)) ?_; (with_reducible refine (scale_Apply.calls kj5 t143 t144 t145 t146 t147 t148 t149 t150 a2 t151 _ A17.out).mono ?_); rintro e w40 ⟨rfl, hb⟩; refine ⟨_, rfl, ?_⟩; have n0_ := Aside0.mk (below_step (by repeat (first | (with_reducible first | exact HB.out | apply below_alloc | apply pw_below_drewN | apply below_drew1) | exact HB.out)) hb); clear HB; have HB := n0_; clear n0_; (try clear hb); (try clear hb2); (try clear hk); (try clear hi)) | ((with_reducible refine gate_callee (f := 12) rfl ?_); refine goesL_ (some 46) rfl rfl Try.func12 (by kernel_rfl) rfl #[] rfl (by (try simp only [List.map_toArray, List.map_cons, List.map_nil]); first | done | rfl | (simp only [List.length_drop, List.length_take]; rfl)) ?_; (with_reducible refine (yardlaw5_first.calls kj5  true _ A18.out).mono ?_); rintro e w41 ⟨rfl, hb⟩; refine ⟨_, rfl, ?_⟩; have n0_ := Aside0.mk (below_step (by repeat (first | (with_reducible first | exact HB.out | apply below_alloc | apply pw_below_drewN | apply below_drew1) | exact HB.out)) hb); clear HB; have HB := n0_; clear n0_; (try clear hb); (try clear hb2); (try clear hk); (try clear hi)) | (go_at_call 23; (with_reducible refine (yardlaw5_p.calls (wrap64 (-a0)) a1 0 t153 t154 t155 t156 t157 t158 t159 t160 _ A22.out).mono ?_); rintro e w42 ⟨rfl, hb⟩; have n0_ := Aside0.mk (below_step (by repeat (first | (with_reducible first | exact HB.out | apply below_alloc | apply pw_below_drewN | apply below_drew1) | exact HB.out)) hb); clear HB; have HB := n0_; clear n0_; (try clear hb); (try clear hb2); (try clear hk); (try clear hi)) | (go_at_call 15; (with_reducible refine (scale_Apply.calls kj5 t153 t154 t155 t156 t157 t158 t159 t160 a2 t161 _ A23.out).mono ?_); rintro e w43 ⟨rfl, hb⟩; have n0_ := Aside0.mk (below_step (by repeat (first | (with_reducible first | exact HB.out | apply below_alloc | apply pw_below_drewN | apply below_drew1) | exact HB.out)) hb); clear HB; have HB := n0_; clear n0_; (try clear hb); (try clear hb2); (try clear hk); (try clear hi)) | (go_at_call 23; (with_reducible refine (yardlaw5_p.calls a0 a1 0 t162 t163 t164 t165 t166 t167 t168 t169 _ A25.out).mono ?_); rintro e w44 ⟨rfl, hb⟩; have n0_ := Aside0.mk (below_step (by repeat (first | (with_reducible first | exact HB.out | apply below_alloc | apply pw_below_drewN | apply below_drew1) | exact HB.out)) hb); clear HB; have HB := n0_; clear n0_; (try clear hb); (try clear hb2); (try clear hk); (try clear hi)) | (go_at_call 15; (with_reducible refine (scale_Apply.calls kj5 t162 t163 t164 t165 t166 t167 t168 t169 (wrap64 (-a2)) t170 _ A26.out).mono ?_); rintro e w45 ⟨rfl, hb⟩; have n0_ := Aside0.mk (below_step (by repeat (first | (with_reducible first | exact HB.out | apply below_alloc | apply pw_below_drewN | apply below_drew1) | exact HB.out)) hb); clear HB; have HB := n0_; clear n0_; (try clear hb); (try clear hb2); (try clear hk); (try clear hi)))
                  go_ret
                  exact ⟨by first | rfl | (simp [errW_none, errW_some] <;> rfl) | (simp only [← hji20]; first | rfl | (simp [errW_none, errW_some] <;> rfl)) | (simp [*, errW_none, errW_some] <;> rfl), by repeat (first | (with_reducible first | exact HB.out | apply below_alloc | apply pw_below_drewN | apply below_drew1) | exact HB.out)⟩
              · rw [if_neg c24] at H
                have c24b0 : (t161 == (wrap64 (-t151))) = false := beq_eq_false_iff_ne.mpr c24
                have c24b1 : (t161 != (wrap64 (-t151))) = true := bne_iff_ne.mpr c24
                obtain rfl := Option.some.inj H
                go_wp2_with (first | ((with_reducible refine gate_callee (f := 23) rfl ?_); refine goesL_ (some 36) rfl rfl Try.func23 (by kernel_rfl) rfl #[.int .i64 a0, .int .i64 a1, .int .i64 0] rfl (by (try simp only [List.map_toArray, List.map_cons, List.map_nil]); first | done | rfl | (simp only [List.length_drop, List.length_take]; rfl)) ?_; (with_reducible refine (yardlaw5_p.calls a0 a1 0 t143 t144 t145 t146 t147 t148 t149 t150 _ A16.out).mono ?_); rintro e w46 ⟨rfl, hb⟩; refine ⟨_, rfl, ?_⟩; have n0_ := Aside0.mk (below_step (by repeat (first | (with_reducible first | exact HB.out | apply below_alloc | apply pw_below_drewN | apply below_drew1) | exact HB.out)) hb); clear HB; have HB := n0_; clear n0_; (try clear hb); (try clear hb2); (try clear hk); (try clear hi)) | ((with_reducible refine gate_callee (f := 15) rfl ?_); refine goesL_ (some 38) rfl rfl Try.func15 (by kernel_rfl) rfl #[.agg #[.int .i64 t143, .int .i64 t144, .int .i64 t145, .int .i64 t146, .int .i64 t147, .int .i64 t148, .int .i64 t149, .int .i64 t150], .int .i64 a2] rfl (by (try simp only [List.map_toArray, List.map_cons, List.map_nil]); first | done | rfl | (simp only [List.length_drop, List.length_take]; rfl)) ?_; (with_reducible refine (scale_Apply.calls kj5 t143 t144 t145 t146 t147 t148 t149 t150 a2 t151 _ A17.out).mono ?_); rintro e w47 ⟨rfl, hb⟩; refine ⟨_, rfl, ?_⟩; have n0_ := Aside0.mk (below_step (by repeat (first | (with_reducible first | exact HB.out | apply below_alloc | apply pw_below_drewN | apply below_drew1) | exact HB.out)) hb); clear HB; have HB := n0_; clear n0_; (try clear hb); (try clear hb2); (try clear hk); (try clear hi)) | ((with_reducible refine gate_callee (f := 12) rfl ?_); refine goesL_ (some 46) rfl rfl Try.func12 (by kernel_rfl) rfl #[] rfl (by (try simp only [List.map_toArray, List.map_cons, List.map_nil]); first | done | rfl | (simp only [List.length_drop, List.length_take]; rfl)) ?_; (with_reducible refine (yardlaw5_first.calls kj5  true _ A18.out).mono ?_); rintro e w48 ⟨rfl, hb⟩; refine ⟨_, rfl, ?_⟩; have n0_ := Aside0.mk (below_step (by repeat (first | (with_reducible first | exact HB.out | apply below_alloc | apply pw_below_drewN | apply below_drew1) | exact HB.out)) hb); clear HB; have HB := n0_; clear n0_; (try clear hb); (try clear hb2); (try clear hk); (try clear hi)) | (go_at_call 23; (with_reducible refine (yardlaw5_p.calls (wrap64 (-a0)) a1 0 t153 t154 t155 t156 t157 t158 t159 t160 _ A22.out).mono ?_); rintro e w49 ⟨rfl, hb⟩; have n0_ := Aside0.mk (below_step (by repeat (first | (with_reducible first | exact HB.out | apply below_alloc | apply pw_below_drewN | apply below_drew1) | exact HB.out)) hb); clear HB; have HB := n0_; clear n0_; (try clear hb); (try clear hb2); (try clear hk); (try clear hi)) | (go_at_call 15; (with_reducible refine (scale_Apply.calls kj5 t153 t154 t155 t156 t157 t158 t159 t160 a2 t161 _ A23.out).mono ?_); rintro e w50 ⟨rfl, hb⟩; have n0_ := Aside0.mk (below_step (by repeat (first | (with_reducible first | exact HB.out | apply below_alloc | apply pw_below_drewN | apply below_drew1) | exact HB.out)) hb); clear HB; have HB := n0_; clear n0_; (try clear hb); (try clear hb2); (try clear hk); (try clear hi)))
                go_ret
                exact ⟨by first | rfl | (simp [errW_none, errW_some] <;> rfl) | (simp only [← hji20]; first | rfl | (simp [errW_none, errW_some] <;> rfl)) | (simp [*, errW_none, errW_some] <;> rfl), by repeat (first | (with_reducible first | exact HB.out | apply below_alloc | apply pw_below_drewN | apply below_drew1) | exact HB.out)⟩
            · rw [if_neg c21] at H
              have c21b0 : decide ((wrap64 (2 * (ji20))) ≤ a1) = false := decide_eq_false c21
              clear c21
              obtain rfl := Option.some.inj H
              go_wp2_with (first | ((with_reducible refine gate_callee (f := 23) rfl ?_); refine goesL_ (some 36) rfl rfl Try.func23 (by kernel_rfl) rfl #[.int .i64 a0, .int .i64 a1, .int .i64 0] rfl (by (try simp only [List.map_toArray, List.map_cons, List.map_nil]); first | done | rfl | (simp only [List.length_drop, List.length_take]; rfl)) ?_; (with_reducible refine (yardlaw5_p.calls a0 a1 0 t143 t144 t145 t146 t147 t148 t149 t150 _ A16.out).mono ?_); rintro e w51 ⟨rfl, hb⟩; refine ⟨_, rfl, ?_⟩; have n0_ := Aside0.mk (below_step (by repeat (first | (with_reducible first | exact HB.out | apply below_alloc | apply pw_below_drewN | apply below_drew1) | exact HB.out)) hb); clear HB; have HB := n0_; clear n0_; (try clear hb); (try clear hb2); (try clear hk); (try clear hi)) | ((with_reducible refine gate_callee (f := 15) rfl ?_); refine goesL_ (some 38) rfl rfl Try.func15 (by kernel_rfl) rfl #[.agg #[.int .i64 t143, .int .i64 t144, .int .i64 t145, .int .i64 t146, .int .i64 t147, .int .i64 t148, .int .i64 t149, .int .i64 t150], .int .i64 a2] rfl (by (try simp only [List.map_toArray, List.map_cons, List.map_nil]); first | done | rfl | (simp only [List.length_drop, List.length_take]; rfl)) ?_; (with_reducible refine (scale_Apply.calls kj5 t143 t144 t145 t146 t147 t148 t149 t150 a2 t151 _ A17.out).mono ?_); rintro e w52 ⟨rfl, hb⟩; refine ⟨_, rfl, ?_⟩; have n0_ := Aside0.mk (below_step (by repeat (first | (with_reducible first | exact HB.out | apply below_alloc | apply pw_below_drewN | apply below_drew1) | exact HB.out)) hb); clear HB; have HB := n0_; clear n0_; (try clear hb); (try clear hb2); (try clear hk); (try clear hi)) | ((with_reducible refine gate_callee (f := 12) rfl ?_); refine goesL_ (some 46) rfl rfl Try.func12 (by kernel_rfl) rfl #[] rfl (by (try simp only [List.map_toArray, List.map_cons, List.map_nil]); first | done | rfl | (simp only [List.length_drop, List.length_take]; rfl)) ?_; (with_reducible refine (yardlaw5_first.calls kj5  true _ A18.out).mono ?_); rintro e w53 ⟨rfl, hb⟩; refine ⟨_, rfl, ?_⟩; have n0_ := Aside0.mk (below_step (by repeat (first | (with_reducible first | exact HB.out | apply below_alloc | apply pw_below_drewN | apply below_drew1) | exact HB.out)) hb); clear HB; have HB := n0_; clear n0_; (try clear hb); (try clear hb2); (try clear hk); (try clear hi)))
              go_ret
              exact ⟨by first | rfl | (simp [errW_none, errW_some] <;> rfl) | (simp only [← hji20]; first | rfl | (simp [errW_none, errW_some] <;> rfl)) | (simp [*, errW_none, errW_some] <;> rfl), by repeat (first | (with_reducible first | exact HB.out | apply below_alloc | apply pw_below_drewN | apply below_drew1) | exact HB.out)⟩
          · replace c19 := Bool.eq_false_iff.mpr c19
            subst c19
            have H1 : (some false) = some r := by rw [if_neg (show ¬ (false = true) by decide)] at H; exact H
            clear H
            have H := H1
            clear H1
            obtain rfl := Option.some.inj H
            go_wp2_with (first | ((with_reducible refine gate_callee (f := 23) rfl ?_); refine goesL_ (some 36) rfl rfl Try.func23 (by kernel_rfl) rfl #[.int .i64 a0, .int .i64 a1, .int .i64 0] rfl (by (try simp only [List.map_toArray, List.map_cons, List.map_nil]); first | done | rfl | (simp only [List.length_drop, List.length_take]; rfl)) ?_; (with_reducible refine (yardlaw5_p.calls a0 a1 0 t143 t144 t145 t146 t147 t148 t149 t150 _ A16.out).mono ?_); rintro e w54 ⟨rfl, hb⟩; refine ⟨_, rfl, ?_⟩; have n0_ := Aside0.mk (below_step (by repeat (first | (with_reducible first | exact HB.out | apply below_alloc | apply pw_below_drewN | apply below_drew1) | exact HB.out)) hb); clear HB; have HB := n0_; clear n0_; (try clear hb); (try clear hb2); (try clear hk); (try clear hi)) | ((with_reducible refine gate_callee (f := 15) rfl ?_); refine goesL_ (some 38) rfl rfl Try.func15 (by kernel_rfl) rfl #[.agg #[.int .i64 t143, .int .i64 t144, .int .i64 t145, .int .i64 t146, .int .i64 t147, .int .i64 t148, .int .i64 t149, .int .i64 t150], .int .i64 a2] rfl (by (try simp only [List.map_toArray, List.map_cons, List.map_nil]); first | done | rfl | (simp only [List.length_drop, List.length_take]; rfl)) ?_; (with_reducible refine (scale_Apply.calls kj5 t143 t144 t145 t146 t147 t148 t149 t150 a2 t151 _ A17.out).mono ?_); rintro e w55 ⟨rfl, hb⟩; refine ⟨_, rfl, ?_⟩; have n0_ := Aside0.mk (below_step (by repeat (first | (with_reducible first | exact HB.out | apply below_alloc | apply pw_below_drewN | apply below_drew1) | exact HB.out)) hb); clear HB; have HB := n0_; clear n0_; (try clear hb); (try clear hb2); (try clear hk); (try clear hi)) | ((with_reducible refine gate_callee (f := 12) rfl ?_); refine goesL_ (some 46) rfl rfl Try.func12 (by kernel_rfl) rfl #[] rfl (by (try simp only [List.map_toArray, List.map_cons, List.map_nil]); first | done | rfl | (simp only [List.length_drop, List.length_take]; rfl)) ?_; (with_reducible refine (yardlaw5_first.calls kj5  false _ A18.out).mono ?_); rintro e w56 ⟨rfl, hb⟩; refine ⟨_, rfl, ?_⟩; have n0_ := Aside0.mk (below_step (by repeat (first | (with_reducible first | exact HB.out | apply below_alloc | apply pw_below_drewN | apply below_drew1) | exact HB.out)) hb); clear HB; have HB := n0_; clear n0_; (try clear hb); (try clear hb2); (try clear hk); (try clear hi)))
            go_ret
            exact ⟨by first | rfl | (simp [errW_none, errW_some] <;> rfl) | (simp [*, errW_none, errW_some] <;> rfl), by repeat (first | (with_reducible first | exact HB.out | apply below_alloc | apply pw_below_drewN | apply below_drew1) | exact HB.out)⟩
  · replace c5 := Bool.eq_false_iff.mpr c5
    subst c5
    have H1 : (some false) = some r := by rw [if_neg (show ¬ (false = true) by decide)] at H; exact H
    clear H
    have H := H1
    clear H1
    obtain rfl := Option.some.inj H
    go_enter Try.func6, Try.ntmps6
    go_wp2_with (first | ((with_reducible refine gate_callee (f := 12) rfl ?_); refine goesL_ (some 9) rfl rfl Try.func12 (by kernel_rfl) rfl #[] rfl (by (try simp only [List.map_toArray, List.map_cons, List.map_nil]); first | done | rfl | (simp only [List.length_drop, List.length_take]; rfl)) ?_; (with_reducible refine (yardlaw5_first.calls k  false _ A4.out).mono ?_); rintro e w57 ⟨rfl, hb⟩; refine ⟨_, rfl, ?_⟩; have n0_ := Aside0.mk (below_step (by repeat (first | (with_reducible first | exact HB.out | apply below_alloc | apply pw_below_drewN | apply below_drew1) | exact HB.out)) hb); clear HB; have HB := n0_; clear n0_; (try clear hb); (try clear hb2); (try clear hk); (try clear hi)))
    go_ret
    exact ⟨by first | rfl | (simp [errW_none, errW_some] <;> rfl) | (simp [*, errW_none, errW_some] <;> rfl), by repeat (first | (with_reducible first | exact HB.out | apply below_alloc | apply pw_below_drewN | apply below_drew1) | exact HB.out)⟩

/-- THE ONE PURE STATEMENT of yardlaw5_ScaleNear: yours. -/
def yardlaw5_ScaleNear.Pure : Prop := ∀ (a0 : Int) (a1 : Int) (a2 : Int), (Lit.int .i64 a0).wf = true → (Lit.int .i64 a1).wf = true → (Lit.int .i64 a2).wf = true → ∃ k, yardlaw5_ScaleNear.f k a0 a1 a2 = some true
theorem yardlaw5_ScaleNear.walk (P : yardlaw5_ScaleNear.Pure) (a0 : Int) (a1 : Int) (a2 : Int) (w : World) (w0 : (Lit.int .i64 a0).wf = true) (w1 : (Lit.int .i64 a1).wf = true) (w2 : (Lit.int .i64 a2).wf = true) :
    Calls Try.prog 6 #[.int .i64 a0, .int .i64 a1, .int .i64 a2] w fun e w' => e = .returned (.bool true) ∧ Below w.heap.size w w' := by
  obtain ⟨k, h⟩ := P a0 a1 a2 w0 w1 w2
  refine (yardlaw5_ScaleNear.calls k a0 a1 a2 true w h).mono ?_
  rintro e w' ⟨rfl, hd⟩
  exact ⟨rfl, hd⟩

end Go.Proofs.Ytainifflpbkiiaa.PScaleNear
