/- Printed by a program of the session's own, out of the translation. -/
import Derived.Test.YtpchlljelbpanaaPVari2x0
import Derived.Test.YtpchlljelbpanaaPVari2x1
import Derived.Test.YtpchlljelbpanaaPVari2x3
import Derived.Test.YtpchlljelbpanaaPVari2x4
namespace Go.Proofs.Ytpchlljelbpanaa.PVari2
open Go.RowKit Go.Proofs.YtpchlljelbpanaaW.PrintWords Go.Proofs.YtpchlljelbpanaaW.PrintLast Go.Proofs.YtpchlljelbpanaaW.PrintMore
attribute [local go_sem] max2_int min2_int max_two min_two max_three min_three max_four min_four   -- for this text's walks alone
set_option linter.unusedVariables false
set_option linter.unusedSimpArgs false

/-! ### yardlaw18_VariKinds: function 9 -/
mutual
def yardlaw18_VariKinds.j0 : Nat → Int → Int → Int → Int → Int → Int → Int → Int → Bool → Int → Bool → Bool → Option (Bool)
  | 0, _, _, _, _, _, _, _, _, _, _, _, _ => none
  | k + 1, x0, x1, x2, x7, x8, x9, x10, x11, x12, x13, x14, x15 => if x0 ≥ 1 then (yardlaw18_VariKinds.j1 k x0 x1 x2 x7 x8 x9 x10 x11 x12 x13 x14 x15 (decide (x0 ≤ 4))) else (yardlaw18_VariKinds.j1 k x0 x1 x2 x7 x8 x9 x10 x11 x12 x13 x14 x15 false)
def yardlaw18_VariKinds.j1 : Nat → Int → Int → Int → Int → Int → Int → Int → Int → Bool → Int → Bool → Bool → Bool → Option (Bool)
  | 0, _, _, _, _, _, _, _, _, _, _, _, _, _ => none
  | k + 1, x0, x1, x2, x7, x8, x9, x10, x11, x12, x13, x14, x15, x16 => if (x15 != x12) = true then (yardlaw18_VariKinds.j2 k x1 x2 true) else (if (x16 != x14) = true then (yardlaw18_VariKinds.j2 k x1 x2 true) else (if x15 = true then ((vari_Kind.f k x7).bind fun t189 => (if t189 = x0 then (if x11 < 1 then (yardlaw18_VariKinds.j2 k x1 x2 true) else (if x16 = true then ((vari_Kind.f k x9).bind fun t190 => (if t190 = x0 then (if x13 < x11 then (yardlaw18_VariKinds.j2 k x1 x2 true) else (yardlaw18_VariKinds.j2 k x1 x2 false)) else (yardlaw18_VariKinds.j2 k x1 x2 true))) else (yardlaw18_VariKinds.j2 k x1 x2 ((wrap64 (x9 + x10)) != 0)))) else (yardlaw18_VariKinds.j2 k x1 x2 true))) else (if x16 = true then ((vari_Kind.f k x9).bind fun t191 => (if t191 = x0 then (if x13 < x11 then (yardlaw18_VariKinds.j2 k x1 x2 true) else (if (wrap64 (x7 + x8)) = 0 then (yardlaw18_VariKinds.j2 k x1 x2 false) else (yardlaw18_VariKinds.j2 k x1 x2 true))) else (yardlaw18_VariKinds.j2 k x1 x2 true))) else (if (wrap64 (x7 + x8)) = 0 then (yardlaw18_VariKinds.j2 k x1 x2 ((wrap64 (x9 + x10)) != 0)) else (yardlaw18_VariKinds.j2 k x1 x2 true)))))
def yardlaw18_VariKinds.j2 : Nat → Int → Int → Bool → Option (Bool)
  | 0, _, _, _ => none
  | k + 1, x1, x2, x111 => if x111 = true then (some false) else ((vari_Size.f k x1 x2).bind fun bt192 => ((vari_Put.f k x1 x2 0 0 0 0).bind fun bt194 => ((yardlaw18_first.f).bind fun t198 => (if t198 = true then ((vari_Kind.f k x1).bind fun t199 => (if t199 = 0 then (if bt194.2 = true then (some false) else (some (bt192.2 == (decide (bt192.1 > 0))))) else (if (bt192.2 == bt194.2) = true then (some (bt192.2 == (decide (bt192.1 > 0)))) else (some false)))) else (some false)))))
end
def yardlaw18_VariKinds.f (k : Nat) (a0 : Int) (a1 : Int) (a2 : Int) : Option (Bool) := (yardlaw18_first.f).bind fun t180 => (if t180 = true then ((vari_Static.f a0).bind fun bt181 => ((vari_Event.f a0).bind fun bt183 => ((vari_Size.f k bt181.1 bt181.2).bind fun bt185 => ((vari_Size.f k bt183.1 bt183.2).bind fun bt187 => (if a0 ≥ 1 then (yardlaw18_VariKinds.j0 k a0 a1 a2 bt181.1 bt181.2 bt183.1 bt183.2 bt185.1 bt185.2 bt187.1 bt187.2 (decide (a0 ≤ 7))) else (yardlaw18_VariKinds.j0 k a0 a1 a2 bt181.1 bt181.2 bt183.1 bt183.2 bt185.1 bt185.2 bt187.1 bt187.2 false)))))) else (some false))
theorem yardlaw18_VariKinds.mono_l : ∀ k, (∀ y0 y1 y2 y3 y4 y5 y6 y7 y8 y9 y10 y11, LeO (yardlaw18_VariKinds.j0 k y0 y1 y2 y3 y4 y5 y6 y7 y8 y9 y10 y11) (yardlaw18_VariKinds.j0 (k + 1) y0 y1 y2 y3 y4 y5 y6 y7 y8 y9 y10 y11)) ∧ (∀ y0 y1 y2 y3 y4 y5 y6 y7 y8 y9 y10 y11 y12, LeO (yardlaw18_VariKinds.j1 k y0 y1 y2 y3 y4 y5 y6 y7 y8 y9 y10 y11 y12) (yardlaw18_VariKinds.j1 (k + 1) y0 y1 y2 y3 y4 y5 y6 y7 y8 y9 y10 y11 y12)) ∧ (∀ y0 y1 y2, LeO (yardlaw18_VariKinds.j2 k y0 y1 y2) (yardlaw18_VariKinds.j2 (k + 1) y0 y1 y2))
  | 0 => ⟨fun _ _ _ _ _ _ _ _ _ _ _ _ r h => by simp [yardlaw18_VariKinds.j0] at h, fun _ _ _ _ _ _ _ _ _ _ _ _ _ r h => by simp [yardlaw18_VariKinds.j1] at h, fun _ _ _ r h => by simp [yardlaw18_VariKinds.j2] at h⟩
  | k + 1 => by
    obtain ⟨ih0, ih1, ih2⟩ := yardlaw18_VariKinds.mono_l k
    refine ⟨?_, ?_, ?_⟩
    · intro y0 y1 y2 y3 y4 y5 y6 y7 y8 y9 y10 y11
      unfold yardlaw18_VariKinds.j0
      repeat' first
      | (with_reducible exact ih0 _ _ _ _ _ _ _ _ _ _ _ _)
      | (with_reducible exact ih1 _ _ _ _ _ _ _ _ _ _ _ _ _)
      | (with_reducible exact ih2 _ _ _)
      | (with_reducible exact vari_Kind.mono _ _)
      | (with_reducible exact vari_Put.mono _ _ _ _ _ _ _)
      | (with_reducible exact vari_Size.mono _ _ _)
      | (with_reducible exact LeO.refl _)
      | (with_reducible exact LeO.none _)
      | (with_reducible refine LeO.ite ?_ ?_)
      | (with_reducible refine LeO.bind ?_ (fun _ => ?_))
      | exact ih0 _ _ _ _ _ _ _ _ _ _ _ _
      | exact ih1 _ _ _ _ _ _ _ _ _ _ _ _ _
      | exact ih2 _ _ _
      | exact vari_Kind.mono _ _
      | exact vari_Put.mono _ _ _ _ _ _ _
      | exact vari_Size.mono _ _ _
      | exact LeO.none _
      | refine LeO.ite ?_ ?_
      | refine LeO.bind ?_ (fun _ => ?_)
    · intro y0 y1 y2 y3 y4 y5 y6 y7 y8 y9 y10 y11 y12
      unfold yardlaw18_VariKinds.j1
      repeat' first
      | (with_reducible exact ih0 _ _ _ _ _ _ _ _ _ _ _ _)
      | (with_reducible exact ih1 _ _ _ _ _ _ _ _ _ _ _ _ _)
      | (with_reducible exact ih2 _ _ _)
      | (with_reducible exact vari_Kind.mono _ _)
      | (with_reducible exact vari_Put.mono _ _ _ _ _ _ _)
      | (with_reducible exact vari_Size.mono _ _ _)
      | (with_reducible exact LeO.refl _)
      | (with_reducible exact LeO.none _)
      | (with_reducible refine LeO.ite ?_ ?_)
      | (with_reducible refine LeO.bind ?_ (fun _ => ?_))
      | exact ih0 _ _ _ _ _ _ _ _ _ _ _ _
      | exact ih1 _ _ _ _ _ _ _ _ _ _ _ _ _
      | exact ih2 _ _ _
      | exact vari_Kind.mono _ _
      | exact vari_Put.mono _ _ _ _ _ _ _
      | exact vari_Size.mono _ _ _
      | exact LeO.none _
      | refine LeO.ite ?_ ?_
      | refine LeO.bind ?_ (fun _ => ?_)
    · intro y0 y1 y2
      unfold yardlaw18_VariKinds.j2
      repeat' first
      | (with_reducible exact ih0 _ _ _ _ _ _ _ _ _ _ _ _)
      | (with_reducible exact ih1 _ _ _ _ _ _ _ _ _ _ _ _ _)
      | (with_reducible exact ih2 _ _ _)
      | (with_reducible exact vari_Kind.mono _ _)
      | (with_reducible exact vari_Put.mono _ _ _ _ _ _ _)
      | (with_reducible exact vari_Size.mono _ _ _)
      | (with_reducible exact LeO.refl _)
      | (with_reducible exact LeO.none _)
      | (with_reducible refine LeO.ite ?_ ?_)
      | (with_reducible refine LeO.bind ?_ (fun _ => ?_))
      | exact ih0 _ _ _ _ _ _ _ _ _ _ _ _
      | exact ih1 _ _ _ _ _ _ _ _ _ _ _ _ _
      | exact ih2 _ _ _
      | exact vari_Kind.mono _ _
      | exact vari_Put.mono _ _ _ _ _ _ _
      | exact vari_Size.mono _ _ _
      | exact LeO.none _
      | refine LeO.ite ?_ ?_
      | refine LeO.bind ?_ (fun _ => ?_)
theorem yardlaw18_VariKinds.mono : ∀ a0 a1 a2 k, LeO (yardlaw18_VariKinds.f k a0 a1 a2) (yardlaw18_VariKinds.f (k + 1) a0 a1 a2) := by
  intro a0 a1 a2 k
  obtain ⟨ih0, ih1, ih2⟩ := yardlaw18_VariKinds.mono_l k
  unfold yardlaw18_VariKinds.f
  repeat' first
      | (with_reducible exact ih0 _ _ _ _ _ _ _ _ _ _ _ _)
      | (with_reducible exact ih1 _ _ _ _ _ _ _ _ _ _ _ _ _)
      | (with_reducible exact ih2 _ _ _)
      | (with_reducible exact vari_Kind.mono _ _)
      | (with_reducible exact vari_Put.mono _ _ _ _ _ _ _)
      | (with_reducible exact vari_Size.mono _ _ _)
      | (with_reducible exact LeO.refl _)
      | (with_reducible exact LeO.none _)
      | (with_reducible refine LeO.ite ?_ ?_)
      | (with_reducible refine LeO.bind ?_ (fun _ => ?_))
      | exact ih0 _ _ _ _ _ _ _ _ _ _ _ _
      | exact ih1 _ _ _ _ _ _ _ _ _ _ _ _ _
      | exact ih2 _ _ _
      | exact vari_Kind.mono _ _
      | exact vari_Put.mono _ _ _ _ _ _ _
      | exact vari_Size.mono _ _ _
      | exact LeO.none _
      | refine LeO.ite ?_ ?_
      | refine LeO.bind ?_ (fun _ => ?_)
set_option maxHeartbeats 8000000 in
set_option maxRecDepth 100000 in
theorem yardlaw18_VariKinds.calls (k : Nat) (a0 : Int) (a1 : Int) (a2 : Int) (r : Bool) (w : World) (h : yardlaw18_VariKinds.f k a0 a1 a2 = some r) :
    Calls Try.prog 9 #[.int .i64 a0, .int .i64 a1, .int .i64 a2] w fun e w' => e = .returned (.bool r) ∧ Below w.heap.size w w' := by
  have hu23 := Try.underlying23
  have HB := Aside0.mk (Below.refl w.heap.size w)
  have H : ((yardlaw18_first.f).bind fun t180 => (if t180 = true then ((vari_Static.f a0).bind fun bt181 => ((vari_Event.f a0).bind fun bt183 => ((vari_Size.f k bt181.1 bt181.2).bind fun bt185 => ((vari_Size.f k bt183.1 bt183.2).bind fun bt187 => (if a0 ≥ 1 then (yardlaw18_VariKinds.j0 k a0 a1 a2 bt181.1 bt181.2 bt183.1 bt183.2 bt185.1 bt185.2 bt187.1 bt187.2 (decide (a0 ≤ 7))) else (yardlaw18_VariKinds.j0 k a0 a1 a2 bt181.1 bt181.2 bt183.1 bt183.2 bt185.1 bt185.2 bt187.1 bt187.2 false)))))) else (some false))) = some r := h
  clear h
  replace H := Option.bind_eq_some_iff.mp H
  obtain ⟨t180, A40, H⟩ := H
  replace H : (if t180 = true then ((vari_Static.f a0).bind fun bt181 => ((vari_Event.f a0).bind fun bt183 => ((vari_Size.f k bt181.1 bt181.2).bind fun bt185 => ((vari_Size.f k bt183.1 bt183.2).bind fun bt187 => (if a0 ≥ 1 then (yardlaw18_VariKinds.j0 k a0 a1 a2 bt181.1 bt181.2 bt183.1 bt183.2 bt185.1 bt185.2 bt187.1 bt187.2 (decide (a0 ≤ 7))) else (yardlaw18_VariKinds.j0 k a0 a1 a2 bt181.1 bt181.2 bt183.1 bt183.2 bt185.1 bt185.2 bt187.1 bt187.2 false)))))) else (some false)) = some r := H
  have A4 := Aside0.mk A40
  clear A40
  by_cases c5 : t180 = true
  · subst c5
    have H1 : ((vari_Static.f a0).bind fun bt181 => ((vari_Event.f a0).bind fun bt183 => ((vari_Size.f k bt181.1 bt181.2).bind fun bt185 => ((vari_Size.f k bt183.1 bt183.2).bind fun bt187 => (if a0 ≥ 1 then (yardlaw18_VariKinds.j0 k a0 a1 a2 bt181.1 bt181.2 bt183.1 bt183.2 bt185.1 bt185.2 bt187.1 bt187.2 (decide (a0 ≤ 7))) else (yardlaw18_VariKinds.j0 k a0 a1 a2 bt181.1 bt181.2 bt183.1 bt183.2 bt185.1 bt185.2 bt187.1 bt187.2 false)))))) = some r := by rw [if_pos rfl] at H; exact H
    clear H
    have H := H1
    clear H1
    replace H := Option.bind_eq_some_iff.mp H
    obtain ⟨⟨t181, t182⟩, A60, H⟩ := H
    replace H : ((vari_Event.f a0).bind fun bt183 => ((vari_Size.f k t181 t182).bind fun bt185 => ((vari_Size.f k bt183.1 bt183.2).bind fun bt187 => (if a0 ≥ 1 then (yardlaw18_VariKinds.j0 k a0 a1 a2 t181 t182 bt183.1 bt183.2 bt185.1 bt185.2 bt187.1 bt187.2 (decide (a0 ≤ 7))) else (yardlaw18_VariKinds.j0 k a0 a1 a2 t181 t182 bt183.1 bt183.2 bt185.1 bt185.2 bt187.1 bt187.2 false))))) = some r := H
    have A6 := Aside0.mk A60
    clear A60
    replace H := Option.bind_eq_some_iff.mp H
    obtain ⟨⟨t183, t184⟩, A70, H⟩ := H
    replace H : ((vari_Size.f k t181 t182).bind fun bt185 => ((vari_Size.f k t183 t184).bind fun bt187 => (if a0 ≥ 1 then (yardlaw18_VariKinds.j0 k a0 a1 a2 t181 t182 t183 t184 bt185.1 bt185.2 bt187.1 bt187.2 (decide (a0 ≤ 7))) else (yardlaw18_VariKinds.j0 k a0 a1 a2 t181 t182 t183 t184 bt185.1 bt185.2 bt187.1 bt187.2 false)))) = some r := H
    have A7 := Aside0.mk A70
    clear A70
    replace H := Option.bind_eq_some_iff.mp H
    obtain ⟨⟨t185, t186⟩, A80, H⟩ := H
    replace H : ((vari_Size.f k t183 t184).bind fun bt187 => (if a0 ≥ 1 then (yardlaw18_VariKinds.j0 k a0 a1 a2 t181 t182 t183 t184 t185 t186 bt187.1 bt187.2 (decide (a0 ≤ 7))) else (yardlaw18_VariKinds.j0 k a0 a1 a2 t181 t182 t183 t184 t185 t186 bt187.1 bt187.2 false))) = some r := H
    have A8 := Aside0.mk A80
    clear A80
    replace H := Option.bind_eq_some_iff.mp H
    obtain ⟨⟨t187, t188⟩, A90, H⟩ := H
    replace H : (if a0 ≥ 1 then (yardlaw18_VariKinds.j0 k a0 a1 a2 t181 t182 t183 t184 t185 t186 t187 t188 (decide (a0 ≤ 7))) else (yardlaw18_VariKinds.j0 k a0 a1 a2 t181 t182 t183 t184 t185 t186 t187 t188 false)) = some r := H
    have A9 := Aside0.mk A90
    clear A90
    have HC10 := Aside0.mk H
    clear H
    go_enter Try.func9, Try.ntmps9
    go_upto_region 7 with (first | ((with_reducible refine gate_callee (f := 12) rfl ?_); refine goesL_ (some 21) rfl rfl Try.func12 (by kernel_rfl) rfl #[] rfl (by (try simp only [List.map_toArray, List.map_cons, List.map_nil]); first | done | rfl | (simp only [List.length_drop, List.length_take]; rfl)) ?_; (with_reducible refine (yardlaw18_first.calls  true _ A4.out).mono ?_); rintro e w11 ⟨rfl, hb⟩; refine ⟨_, rfl, ?_⟩; have n0_ := Aside0.mk (below_step (by repeat (first | (with_reducible first | exact HB.out | apply below_alloc | apply pw_below_drewN | apply below_drew1) | exact HB.out)) hb); clear HB; have HB := n0_; clear n0_; (try clear hb); (try clear hb2); (try clear hk); (try clear hi)) | ((with_reducible refine gate_callee (f := 24) rfl ?_); refine goesL_ (some 25) rfl rfl Try.func24 (by kernel_rfl) rfl #[.int .i64 a0] rfl (by (try simp only [List.map_toArray, List.map_cons, List.map_nil]); first | done | rfl | (simp only [List.length_drop, List.length_take]; rfl)) ?_; (with_reducible refine (vari_Static.calls a0 t181 t182 _ A6.out).mono ?_); rintro e w' ⟨rfl, ⟨nd, rfl⟩⟩; refine ⟨_, rfl, ?_⟩) | ((with_reducible refine gate_callee (f := 26) rfl ?_); refine goesL_ (some 30) rfl rfl Try.func26 (by kernel_rfl) rfl #[.int .i64 a0] rfl (by (try simp only [List.map_toArray, List.map_cons, List.map_nil]); first | done | rfl | (simp only [List.length_drop, List.length_take]; rfl)) ?_; (with_reducible refine (vari_Event.calls a0 t183 t184 _ A7.out).mono ?_); rintro e w' ⟨rfl, ⟨nd, rfl⟩⟩; refine ⟨_, rfl, ?_⟩) | ((with_reducible refine gate_callee (f := 21) rfl ?_); refine goesL_ (some 36) rfl rfl Try.func21 (by kernel_rfl) rfl #[.int .i64 t181, .int .i64 t182] rfl (by (try simp only [List.map_toArray, List.map_cons, List.map_nil]); first | done | rfl | (simp only [List.length_drop, List.length_take]; rfl)) ?_; (with_reducible refine (vari_Size.calls k t181 t182 t185 t186 _ A8.out).mono ?_); rintro e w' ⟨rfl, ⟨nd, rfl⟩⟩; refine ⟨_, rfl, ?_⟩) | ((with_reducible refine gate_callee (f := 21) rfl ?_); refine goesL_ (some 42) rfl rfl Try.func21 (by kernel_rfl) rfl #[.int .i64 t183, .int .i64 t184] rfl (by (try simp only [List.map_toArray, List.map_cons, List.map_nil]); first | done | rfl | (simp only [List.length_drop, List.length_take]; rfl)) ?_; (with_reducible refine (vari_Size.calls k t183 t184 t187 t188 _ A9.out).mono ?_); rintro e w' ⟨rfl, ⟨nd, rfl⟩⟩; refine ⟨_, rfl, ?_⟩))
    (try simp only [Act.put, List.setIfInBounds_toArray, List.set_cons_zero, List.set_cons_succ])
    go_cut [15] (fun v15 wc => ∃ (kq : Nat) (x15_9 : Bool), v15 = .bool x15_9 ∧ Aside0 (yardlaw18_VariKinds.j0 kq a0 a1 a2 t181 t182 t183 t184 t185 t186 t187 t188 x15_9 = some r) ∧ Aside0 (kq ≤ k) ∧ Aside0 (Below w.heap.size w wc))
    case first =>
      have H := HC10.out
      clear HC10
      by_cases c12 : a0 ≥ 1
      · rw [if_pos c12] at H
        have c12b0 : decide (1 ≤ a0) = true := decide_eq_true c12
        clear c12
        (first | rw [c12b0] | (simp only [i64_w, i32_w]; rw [c12b0]) | skip)
        have H' := Aside0.mk H
        clear H
        go_wp2
        go_meet
        case rel => exact ⟨_, (decide (a0 ≤ 7)), (by first | rfl | (simp; done) | (simp [*]; done)), H', ⟨by first | omega | exact Nat.le_refl _⟩, ⟨by repeat (first | (with_reducible first | exact HB.out | apply below_alloc | apply pw_below_drewN | apply below_drew1) | exact HB.out)⟩⟩
      · rw [if_neg c12] at H
        have c12b0 : decide (1 ≤ a0) = false := decide_eq_false c12
        clear c12
        (first | rw [c12b0] | (simp only [i64_w, i32_w]; rw [c12b0]) | skip)
        have H' := Aside0.mk H
        clear H
        go_wp2
        go_meet
        case rel => exact ⟨_, (false), (by first | rfl | (simp; done) | (simp [*]; done)), H', ⟨by first | omega | exact Nat.le_refl _⟩, ⟨by repeat (first | (with_reducible first | exact HB.out | apply below_alloc | apply pw_below_drewN | apply below_drew1) | exact HB.out)⟩⟩
    case rest =>
      clear HC10
      try clear c1
      try clear c2
      try clear p2
      try clear c5
      try clear c9
      try clear c12
      try clear c12b0
      obtain ⟨kq, x15_9, rfl, HA, HJ9, HB⟩ := hcut
      cases kq with
      | zero => exact absurd HA.out (by simp [yardlaw18_VariKinds.j0])
      | succ kj9 =>
        have H := HA.out
        clear HA
        simp only [yardlaw18_VariKinds.j0] at H
        have HC13 := Aside0.mk H
        clear H
        go_upto_region 8 with (fail)
        go_cut [16] (fun v16 wc => ∃ (kq : Nat) (x16_12 : Bool), v16 = .bool x16_12 ∧ Aside0 (yardlaw18_VariKinds.j1 kq a0 a1 a2 t181 t182 t183 t184 t185 t186 t187 t188 x15_9 x16_12 = some r) ∧ Aside0 (kq ≤ kj9) ∧ Aside0 (Below w.heap.size w wc))
        case first =>
          have H := HC13.out
          clear HC13
          by_cases c14 : a0 ≥ 1
          · rw [if_pos c14] at H
            have c14b0 : decide (1 ≤ a0) = true := decide_eq_true c14
            clear c14
            (first | rw [c14b0] | (simp only [i64_w, i32_w]; rw [c14b0]) | skip)
            have H' := Aside0.mk H
            clear H
            go_wp2
            go_meet
            case rel => exact ⟨_, (decide (a0 ≤ 4)), (by first | rfl | (simp; done) | (simp [*]; done)), H', ⟨by have := HJ9.out; first | omega | exact Nat.le_refl _⟩, ⟨by repeat (first | (with_reducible first | exact HB.out | apply below_alloc | apply pw_below_drewN | apply below_drew1) | exact HB.out)⟩⟩
          · rw [if_neg c14] at H
            have c14b0 : decide (1 ≤ a0) = false := decide_eq_false c14
            clear c14
            (first | rw [c14b0] | (simp only [i64_w, i32_w]; rw [c14b0]) | skip)
            have H' := Aside0.mk H
            clear H
            go_wp2
            go_meet
            case rel => exact ⟨_, (false), (by first | rfl | (simp; done) | (simp [*]; done)), H', ⟨by have := HJ9.out; first | omega | exact Nat.le_refl _⟩, ⟨by repeat (first | (with_reducible first | exact HB.out | apply below_alloc | apply pw_below_drewN | apply below_drew1) | exact HB.out)⟩⟩
        case rest =>
          clear HC13
          try clear c1
          try clear c2
          try clear p2
          try clear c5
          try clear c9
          try clear c12
          try clear c12b0
          try clear c14
          try clear c14b0
          try clear p2
          obtain ⟨kq, x16_12, rfl, HA, HJ12, HB⟩ := hcut
          cases kq with
          | zero => exact absurd HA.out (by simp [yardlaw18_VariKinds.j1])
          | succ kj12 =>
            have H := HA.out
            clear HA
            simp only [yardlaw18_VariKinds.j1] at H
            have HC15 := Aside0.mk H
            clear H
            go_upto_region 9 with (fail)
            go_cut [111] (fun v111 wc => ∃ (kq : Nat) (x111_14 : Bool), v111 = .bool x111_14 ∧ Aside0 (yardlaw18_VariKinds.j2 kq a1 a2 x111_14 = some r) ∧ Aside0 (kq ≤ kj12) ∧ Aside0 (Below w.heap.size w wc))
            case first =>
              have H := HC15.out
              clear HC15
              by_cases c16 : (x15_9 != t186) = true
              · rw [if_pos c16] at H
                have c16b0 : (x15_9 != t186) = true := c16
                (try (have c16b1 : decide (x15_9 = t186) = false := by simpa using c16))
                (try (have c16b2 : (x15_9 == t186) = false := by simpa using c16))
                (try (have c16b3 : ¬ (x15_9 = t186) := by simpa using c16))
                clear c16
                (first | rw [c16b0] | (simp only [i64_w, i32_w]; rw [c16b0]) | skip)
                have H' := Aside0.mk H
                clear H
                go_wp2
                go_meet
                case rel => exact ⟨_, (true), (by first | rfl | (simp; done) | (simp [*]; done)), H', ⟨by have := HJ9.out; have := HJ12.out; first | omega | exact Nat.le_refl _⟩, ⟨by repeat (first | (with_reducible first | exact HB.out | apply below_alloc | apply pw_below_drewN | apply below_drew1) | exact HB.out)⟩⟩
              · rw [if_neg c16] at H
                have c16b0 : (x15_9 != t186) = false := by simpa using c16
                (try (have c16b1 : decide (x15_9 = t186) = true := by simpa using c16))
                (try (have c16b2 : (x15_9 == t186) = true := by simpa using c16))
                clear c16
                (first | rw [c16b0] | (simp only [i64_w, i32_w]; rw [c16b0]) | skip)
                by_cases c17 : (x16_12 != t188) = true
                · rw [if_pos c17] at H
                  have c17b0 : (x16_12 != t188) = true := c17
                  (try (have c17b1 : decide (x16_12 = t188) = false := by simpa using c17))
                  (try (have c17b2 : (x16_12 == t188) = false := by simpa using c17))
                  (try (have c17b3 : ¬ (x16_12 = t188) := by simpa using c17))
                  clear c17
                  have H' := Aside0.mk H
                  clear H
                  go_wp2
                  go_meet
                  case rel => exact ⟨_, (true), (by first | rfl | (simp; done) | (simp [*]; done)), H', ⟨by have := HJ9.out; have := HJ12.out; first | omega | exact Nat.le_refl _⟩, ⟨by repeat (first | (with_reducible first | exact HB.out | apply below_alloc | apply pw_below_drewN | apply below_drew1) | exact HB.out)⟩⟩
                · rw [if_neg c17] at H
                  have c17b0 : (x16_12 != t188) = false := by simpa using c17
                  (try (have c17b1 : decide (x16_12 = t188) = true := by simpa using c17))
                  (try (have c17b2 : (x16_12 == t188) = true := by simpa using c17))
                  clear c17
                  by_cases c18 : x15_9 = true
                  · subst c18
                    have H1 : ((vari_Kind.f kj12 t181).bind fun t189 => (if t189 = a0 then (if t185 < 1 then (yardlaw18_VariKinds.j2 kj12 a1 a2 true) else (if x16_12 = true then ((vari_Kind.f kj12 t183).bind fun t190 => (if t190 = a0 then (if t187 < t185 then (yardlaw18_VariKinds.j2 kj12 a1 a2 true) else (yardlaw18_VariKinds.j2 kj12 a1 a2 false)) else (yardlaw18_VariKinds.j2 kj12 a1 a2 true))) else (yardlaw18_VariKinds.j2 kj12 a1 a2 ((wrap64 (t183 + t184)) != 0)))) else (yardlaw18_VariKinds.j2 kj12 a1 a2 true))) = some r := by rw [if_pos rfl] at H; exact H
                    clear H
                    have H := H1
                    clear H1
                    replace H := Option.bind_eq_some_iff.mp H
                    obtain ⟨t189, A190, H⟩ := H
                    replace H : (if t189 = a0 then (if t185 < 1 then (yardlaw18_VariKinds.j2 kj12 a1 a2 true) else (if x16_12 = true then ((vari_Kind.f kj12 t183).bind fun t190 => (if t190 = a0 then (if t187 < t185 then (yardlaw18_VariKinds.j2 kj12 a1 a2 true) else (yardlaw18_VariKinds.j2 kj12 a1 a2 false)) else (yardlaw18_VariKinds.j2 kj12 a1 a2 true))) else (yardlaw18_VariKinds.j2 kj12 a1 a2 ((wrap64 (t183 + t184)) != 0)))) else (yardlaw18_VariKinds.j2 kj12 a1 a2 true)) = some r := H
                    have A19 := Aside0.mk A190
                    clear A190
                    by_cases c20 : t189 = a0
                    · rw [if_pos c20] at H
                      have c20b0 : (t189 == a0) = true := beq_iff_eq.mpr c20
                      have c20b1 : (t189 != a0) = false := bne_eq_false_iff_eq.mpr c20
                      clear c20
                      by_cases c21 : t185 < 1
                      · rw [if_pos c21] at H
                        have c21b0 : decide (t185 < 1) = true := decide_eq_true c21
                        clear c21
                        have H' := Aside0.mk H
                        clear H
                        go_wp2_with (first | (go_at_call 14; (with_reducible refine (vari_Kind.calls kj12 t181 t189 _ A19.out).mono ?_); rintro e w' ⟨rfl, ⟨nd, rfl⟩⟩))
                        go_meet
                        case rel => exact ⟨_, (true), (by first | rfl | (simp; done) | (simp [*]; done)), H', ⟨by have := HJ9.out; have := HJ12.out; first | omega | exact Nat.le_refl _⟩, ⟨by repeat (first | (with_reducible first | exact HB.out | apply below_alloc | apply pw_below_drewN | apply below_drew1) | exact HB.out)⟩⟩
                      · rw [if_neg c21] at H
                        have c21b0 : decide (t185 < 1) = false := decide_eq_false c21
                        clear c21
                        by_cases c22 : x16_12 = true
                        · subst c22
                          have H1 : ((vari_Kind.f kj12 t183).bind fun t190 => (if t190 = a0 then (if t187 < t185 then (yardlaw18_VariKinds.j2 kj12 a1 a2 true) else (yardlaw18_VariKinds.j2 kj12 a1 a2 false)) else (yardlaw18_VariKinds.j2 kj12 a1 a2 true))) = some r := by rw [if_pos rfl] at H; exact H
                          clear H
                          have H := H1
                          clear H1
                          replace H := Option.bind_eq_some_iff.mp H
                          obtain ⟨t190, A230, H⟩ := H
                          replace H : (if t190 = a0 then (if t187 < t185 then (yardlaw18_VariKinds.j2 kj12 a1 a2 true) else (yardlaw18_VariKinds.j2 kj12 a1 a2 false)) else (yardlaw18_VariKinds.j2 kj12 a1 a2 true)) = some r := H
                          have A23 := Aside0.mk A230
                          clear A230
                          by_cases c24 : t190 = a0
                          · rw [if_pos c24] at H
                            have c24b0 : (t190 == a0) = true := beq_iff_eq.mpr c24
                            have c24b1 : (t190 != a0) = false := bne_eq_false_iff_eq.mpr c24
                            clear c24
                            by_cases c25 : t187 < t185
                            · rw [if_pos c25] at H
                              have c25b0 : decide (t187 < t185) = true := decide_eq_true c25
                              clear c25
                              have H' := Aside0.mk H
                              clear H
                              go_wp2_with (first | (go_at_call 14; (with_reducible refine (vari_Kind.calls kj12 t181 t189 _ A19.out).mono ?_); rintro e w' ⟨rfl, ⟨nd, rfl⟩⟩) | (go_at_call 14; (with_reducible refine (vari_Kind.calls kj12 t183 t190 _ A23.out).mono ?_); rintro e w' ⟨rfl, ⟨nd, rfl⟩⟩))
                              go_meet
                              case rel => exact ⟨_, (true), (by first | rfl | (simp; done) | (simp [*]; done)), H', ⟨by have := HJ9.out; have := HJ12.out; first | omega | exact Nat.le_refl _⟩, ⟨by repeat (first | (with_reducible first | exact HB.out | apply below_alloc | apply pw_below_drewN | apply below_drew1) | exact HB.out)⟩⟩
                            · rw [if_neg c25] at H
                              have c25b0 : decide (t187 < t185) = false := decide_eq_false c25
                              clear c25
                              have H' := Aside0.mk H
                              clear H
                              go_wp2_with (first | (go_at_call 14; (with_reducible refine (vari_Kind.calls kj12 t181 t189 _ A19.out).mono ?_); rintro e w' ⟨rfl, ⟨nd, rfl⟩⟩) | (go_at_call 14; (with_reducible refine (vari_Kind.calls kj12 t183 t190 _ A23.out).mono ?_); rintro e w' ⟨rfl, ⟨nd, rfl⟩⟩))
                              go_meet
                              case rel => exact ⟨_, (false), (by first | rfl | (simp; done) | (simp [*]; done)), H', ⟨by have := HJ9.out; have := HJ12.out; first | omega | exact Nat.le_refl _⟩, ⟨by repeat (first | (with_reducible first | exact HB.out | apply below_alloc | apply pw_below_drewN | apply below_drew1) | exact HB.out)⟩⟩
                          · rw [if_neg c24] at H
                            have c24b0 : (t190 == a0) = false := beq_eq_false_iff_ne.mpr c24
                            have c24b1 : (t190 != a0) = true := bne_iff_ne.mpr c24
                            have H' := Aside0.mk H
                            clear H
                            go_wp2_with (first | (go_at_call 14; (with_reducible refine (vari_Kind.calls kj12 t181 t189 _ A19.out).mono ?_); rintro e w' ⟨rfl, ⟨nd, rfl⟩⟩) | (go_at_call 14; (with_reducible refine (vari_Kind.calls kj12 t183 t190 _ A23.out).mono ?_); rintro e w' ⟨rfl, ⟨nd, rfl⟩⟩))
                            go_meet
                            case rel => exact ⟨_, (true), (by first | rfl | (simp; done) | (simp [*]; done)), H', ⟨by have := HJ9.out; have := HJ12.out; first | omega | exact Nat.le_refl _⟩, ⟨by repeat (first | (with_reducible first | exact HB.out | apply below_alloc | apply pw_below_drewN | apply below_drew1) | exact HB.out)⟩⟩
                        · replace c22 := Bool.eq_false_iff.mpr c22
                          subst c22
                          have H1 : (yardlaw18_VariKinds.j2 kj12 a1 a2 ((wrap64 (t183 + t184)) != 0)) = some r := by rw [if_neg (show ¬ (false = true) by decide)] at H; exact H
                          clear H
                          have H := H1
                          clear H1
                          have H' := Aside0.mk H
                          clear H
                          go_wp2_with (first | (go_at_call 14; (with_reducible refine (vari_Kind.calls kj12 t181 t189 _ A19.out).mono ?_); rintro e w' ⟨rfl, ⟨nd, rfl⟩⟩))
                          go_meet
                          case rel => exact ⟨_, (((wrap64 (t183 + t184)) != 0)), (by first | rfl | (simp; done) | (simp [*]; done)), H', ⟨by have := HJ9.out; have := HJ12.out; first | omega | exact Nat.le_refl _⟩, ⟨by repeat (first | (with_reducible first | exact HB.out | apply below_alloc | apply pw_below_drewN | apply below_drew1) | exact HB.out)⟩⟩
                    · rw [if_neg c20] at H
                      have c20b0 : (t189 == a0) = false := beq_eq_false_iff_ne.mpr c20
                      have c20b1 : (t189 != a0) = true := bne_iff_ne.mpr c20
                      have H' := Aside0.mk H
                      clear H
                      go_wp2_with (first | (go_at_call 14; (with_reducible refine (vari_Kind.calls kj12 t181 t189 _ A19.out).mono ?_); rintro e w' ⟨rfl, ⟨nd, rfl⟩⟩))
                      go_meet
                      case rel => exact ⟨_, (true), (by first | rfl | (simp; done) | (simp [*]; done)), H', ⟨by have := HJ9.out; have := HJ12.out; first | omega | exact Nat.le_refl _⟩, ⟨by repeat (first | (with_reducible first | exact HB.out | apply below_alloc | apply pw_below_drewN | apply below_drew1) | exact HB.out)⟩⟩
                  · replace c18 := Bool.eq_false_iff.mpr c18
                    subst c18
                    have H1 : (if x16_12 = true then ((vari_Kind.f kj12 t183).bind fun t191 => (if t191 = a0 then (if t187 < t185 then (yardlaw18_VariKinds.j2 kj12 a1 a2 true) else (if (wrap64 (t181 + t182)) = 0 then (yardlaw18_VariKinds.j2 kj12 a1 a2 false) else (yardlaw18_VariKinds.j2 kj12 a1 a2 true))) else (yardlaw18_VariKinds.j2 kj12 a1 a2 true))) else (if (wrap64 (t181 + t182)) = 0 then (yardlaw18_VariKinds.j2 kj12 a1 a2 ((wrap64 (t183 + t184)) != 0)) else (yardlaw18_VariKinds.j2 kj12 a1 a2 true))) = some r := by rw [if_neg (show ¬ (false = true) by decide)] at H; exact H
                    clear H
                    have H := H1
                    clear H1
                    by_cases c26 : x16_12 = true
                    · subst c26
                      have H1 : ((vari_Kind.f kj12 t183).bind fun t191 => (if t191 = a0 then (if t187 < t185 then (yardlaw18_VariKinds.j2 kj12 a1 a2 true) else (if (wrap64 (t181 + t182)) = 0 then (yardlaw18_VariKinds.j2 kj12 a1 a2 false) else (yardlaw18_VariKinds.j2 kj12 a1 a2 true))) else (yardlaw18_VariKinds.j2 kj12 a1 a2 true))) = some r := by rw [if_pos rfl] at H; exact H
                      clear H
                      have H := H1
                      clear H1
                      replace H := Option.bind_eq_some_iff.mp H
                      obtain ⟨t191, A270, H⟩ := H
                      replace H : (if t191 = a0 then (if t187 < t185 then (yardlaw18_VariKinds.j2 kj12 a1 a2 true) else (if (wrap64 (t181 + t182)) = 0 then (yardlaw18_VariKinds.j2 kj12 a1 a2 false) else (yardlaw18_VariKinds.j2 kj12 a1 a2 true))) else (yardlaw18_VariKinds.j2 kj12 a1 a2 true)) = some r := H
                      have A27 := Aside0.mk A270
                      clear A270
                      by_cases c28 : t191 = a0
                      · rw [if_pos c28] at H
                        have c28b0 : (t191 == a0) = true := beq_iff_eq.mpr c28
                        have c28b1 : (t191 != a0) = false := bne_eq_false_iff_eq.mpr c28
                        clear c28
                        by_cases c29 : t187 < t185
                        · rw [if_pos c29] at H
                          have c29b0 : decide (t187 < t185) = true := decide_eq_true c29
                          clear c29
                          have H' := Aside0.mk H
                          clear H
                          go_wp2_with (first | (go_at_call 14; (with_reducible refine (vari_Kind.calls kj12 t183 t191 _ A27.out).mono ?_); rintro e w' ⟨rfl, ⟨nd, rfl⟩⟩))
                          go_meet
                          case rel => exact ⟨_, (true), (by first | rfl | (simp; done) | (simp [*]; done)), H', ⟨by have := HJ9.out; have := HJ12.out; first | omega | exact Nat.le_refl _⟩, ⟨by repeat (first | (with_reducible first | exact HB.out | apply below_alloc | apply pw_below_drewN | apply below_drew1) | exact HB.out)⟩⟩
                        · rw [if_neg c29] at H
                          have c29b0 : decide (t187 < t185) = false := decide_eq_false c29
                          clear c29
                          by_cases c30 : (wrap64 (t181 + t182)) = 0
                          · rw [if_pos c30] at H
                            have c30b0 : ((wrap64 (t181 + t182)) == 0) = true := beq_iff_eq.mpr c30
                            have c30b1 : ((wrap64 (t181 + t182)) != 0) = false := bne_eq_false_iff_eq.mpr c30
                            clear c30
                            have H' := Aside0.mk H
                            clear H
                            go_wp2_with (first | (go_at_call 14; (with_reducible refine (vari_Kind.calls kj12 t183 t191 _ A27.out).mono ?_); rintro e w' ⟨rfl, ⟨nd, rfl⟩⟩))
                            go_meet
                            case rel => exact ⟨_, (false), (by first | rfl | (simp; done) | (simp [*]; done)), H', ⟨by have := HJ9.out; have := HJ12.out; first | omega | exact Nat.le_refl _⟩, ⟨by repeat (first | (with_reducible first | exact HB.out | apply below_alloc | apply pw_below_drewN | apply below_drew1) | exact HB.out)⟩⟩
                          · rw [if_neg c30] at H
                            have c30b0 : ((wrap64 (t181 + t182)) == 0) = false := beq_eq_false_iff_ne.mpr c30
                            have c30b1 : ((wrap64 (t181 + t182)) != 0) = true := bne_iff_ne.mpr c30
                            have H' := Aside0.mk H
                            clear H
                            go_wp2_with (first | (go_at_call 14; (with_reducible refine (vari_Kind.calls kj12 t183 t191 _ A27.out).mono ?_); rintro e w' ⟨rfl, ⟨nd, rfl⟩⟩))
                            go_meet
                            case rel => exact ⟨_, (true), (by first | rfl | (simp; done) | (simp [*]; done)), H', ⟨by have := HJ9.out; have := HJ12.out; first | omega | exact Nat.le_refl _⟩, ⟨by repeat (first | (with_reducible first | exact HB.out | apply below_alloc | apply pw_below_drewN | apply below_drew1) | exact HB.out)⟩⟩
                      · rw [if_neg c28] at H
                        have c28b0 : (t191 == a0) = false := beq_eq_false_iff_ne.mpr c28
                        have c28b1 : (t191 != a0) = true := bne_iff_ne.mpr c28
                        have H' := Aside0.mk H
                        clear H
                        go_wp2_with (first | (go_at_call 14; (with_reducible refine (vari_Kind.calls kj12 t183 t191 _ A27.out).mono ?_); rintro e w' ⟨rfl, ⟨nd, rfl⟩⟩))
                        go_meet
                        case rel => exact ⟨_, (true), (by first | rfl | (simp; done) | (simp [*]; done)), H', ⟨by have := HJ9.out; have := HJ12.out; first | omega | exact Nat.le_refl _⟩, ⟨by repeat (first | (with_reducible first | exact HB.out | apply below_alloc | apply pw_below_drewN | apply below_drew1) | exact HB.out)⟩⟩
                    · replace c26 := Bool.eq_false_iff.mpr c26
                      subst c26
                      have H1 : (if (wrap64 (t181 + t182)) = 0 then (yardlaw18_VariKinds.j2 kj12 a1 a2 ((wrap64 (t183 + t184)) != 0)) else (yardlaw18_VariKinds.j2 kj12 a1 a2 true)) = some r := by rw [if_neg (show ¬ (false = true) by decide)] at H; exact H
                      clear H
                      have H := H1
                      clear H1
                      by_cases c31 : (wrap64 (t181 + t182)) = 0
                      · rw [if_pos c31] at H
                        have c31b0 : ((wrap64 (t181 + t182)) == 0) = true := beq_iff_eq.mpr c31
                        have c31b1 : ((wrap64 (t181 + t182)) != 0) = false := bne_eq_false_iff_eq.mpr c31
                        clear c31
                        have H' := Aside0.mk H
                        clear H
                        go_wp2
                        go_meet
                        case rel => exact ⟨_, (((wrap64 (t183 + t184)) != 0)), (by first | rfl | (simp; done) | (simp [*]; done)), H', ⟨by have := HJ9.out; have := HJ12.out; first | omega | exact Nat.le_refl _⟩, ⟨by repeat (first | (with_reducible first | exact HB.out | apply below_alloc | apply pw_below_drewN | apply below_drew1) | exact HB.out)⟩⟩
                      · rw [if_neg c31] at H
                        have c31b0 : ((wrap64 (t181 + t182)) == 0) = false := beq_eq_false_iff_ne.mpr c31
                        have c31b1 : ((wrap64 (t181 + t182)) != 0) = true := bne_iff_ne.mpr c31
                        have H' := Aside0.mk H
                        clear H
                        go_wp2
                        go_meet
                        case rel => exact ⟨_, (true), (by first | rfl | (simp; done) | (simp [*]; done)), H', ⟨by have := HJ9.out; have := HJ12.out; first | omega | exact Nat.le_refl _⟩, ⟨by repeat (first | (with_reducible first | exact HB.out | apply below_alloc | apply pw_below_drewN | apply below_drew1) | exact HB.out)⟩⟩
            case rest =>
              clear HC15
              try clear c1
              try clear c2
              try clear p2
              try clear c3
              try clear c5
              try clear p6
              try clear c9
              try clear c12
              try clear c12b0
              try clear c14
              try clear c14b0
              try clear c16
              try clear c16b0
              try clear c16b1
              try clear c16b2
              try clear c17
              try clear c17b0
              try clear c17b1
              try clear c17b2
              try clear c18
              try clear c20
              try clear c20b0
              try clear c20b1
              try clear c21
              try clear c21b0
              try clear c22
              try clear c24
              try clear c24b0
              try clear c24b1
              try clear c25
              try clear c25b0
              try clear c26
              try clear c28
              try clear c28b0
              try clear c28b1
              try clear c29
              try clear c29b0
              try clear c30
              try clear c30b0
              try clear c30b1
              try clear c31
              try clear c31b0
              try clear c31b1
              try clear p2
              obtain ⟨kq, x111_14, rfl, HA, HJ14, HB⟩ := hcut
              cases kq with
              | zero => exact absurd HA.out (by simp [yardlaw18_VariKinds.j2])
              | succ kj14 =>
                have H := HA.out
                clear HA
                simp only [yardlaw18_VariKinds.j2] at H
                by_cases c32 : x111_14 = true
                · subst c32
                  have H1 : (some false) = some r := by rw [if_pos rfl] at H; exact H
                  clear H
                  have H := H1
                  clear H1
                  obtain rfl := Option.some.inj H
                  go_wp2
                  go_ret
                  exact ⟨by first | rfl | (simp [errW_none, errW_some] <;> rfl) | (simp [*, errW_none, errW_some] <;> rfl), by repeat (first | (with_reducible first | exact HB.out | apply below_alloc | apply pw_below_drewN | apply below_drew1) | exact HB.out)⟩
                · replace c32 := Bool.eq_false_iff.mpr c32
                  subst c32
                  have H1 : ((vari_Size.f kj14 a1 a2).bind fun bt192 => ((vari_Put.f kj14 a1 a2 0 0 0 0).bind fun bt194 => ((yardlaw18_first.f).bind fun t198 => (if t198 = true then ((vari_Kind.f kj14 a1).bind fun t199 => (if t199 = 0 then (if bt194.2 = true then (some false) else (some (bt192.2 == (decide (bt192.1 > 0))))) else (if (bt192.2 == bt194.2) = true then (some (bt192.2 == (decide (bt192.1 > 0)))) else (some false)))) else (some false))))) = some r := by rw [if_neg (show ¬ (false = true) by decide)] at H; exact H
                  clear H
                  have H := H1
                  clear H1
                  replace H := Option.bind_eq_some_iff.mp H
                  obtain ⟨⟨t192, t193⟩, A330, H⟩ := H
                  replace H : ((vari_Put.f kj14 a1 a2 0 0 0 0).bind fun bt194 => ((yardlaw18_first.f).bind fun t198 => (if t198 = true then ((vari_Kind.f kj14 a1).bind fun t199 => (if t199 = 0 then (if bt194.2 = true then (some false) else (some (t193 == (decide (t192 > 0))))) else (if (t193 == bt194.2) = true then (some (t193 == (decide (t192 > 0)))) else (some false)))) else (some false)))) = some r := H
                  have A33 := Aside0.mk A330
                  clear A330
                  replace H := Option.bind_eq_some_iff.mp H
                  obtain ⟨⟨t194, t197⟩, A340, H⟩ := H
                  replace H : ((yardlaw18_first.f).bind fun t198 => (if t198 = true then ((vari_Kind.f kj14 a1).bind fun t199 => (if t199 = 0 then (if t197 = true then (some false) else (some (t193 == (decide (t192 > 0))))) else (if (t193 == t197) = true then (some (t193 == (decide (t192 > 0)))) else (some false)))) else (some false))) = some r := H
                  have A34 := Aside0.mk A340
                  clear A340
                  replace H := Option.bind_eq_some_iff.mp H
                  obtain ⟨t198, A350, H⟩ := H
                  replace H : (if t198 = true then ((vari_Kind.f kj14 a1).bind fun t199 => (if t199 = 0 then (if t197 = true then (some false) else (some (t193 == (decide (t192 > 0))))) else (if (t193 == t197) = true then (some (t193 == (decide (t192 > 0)))) else (some false)))) else (some false)) = some r := H
                  have A35 := Aside0.mk A350
                  clear A350
                  by_cases c36 : t198 = true
                  · subst c36
                    have H1 : ((vari_Kind.f kj14 a1).bind fun t199 => (if t199 = 0 then (if t197 = true then (some false) else (some (t193 == (decide (t192 > 0))))) else (if (t193 == t197) = true then (some (t193 == (decide (t192 > 0)))) else (some false)))) = some r := by rw [if_pos rfl] at H; exact H
                    clear H
                    have H := H1
                    clear H1
                    replace H := Option.bind_eq_some_iff.mp H
                    obtain ⟨t199, A370, H⟩ := H
                    replace H : (if t199 = 0 then (if t197 = true then (some false) else (some (t193 == (decide (t192 > 0))))) else (if (t193 == t197) = true then (some (t193 == (decide (t192 > 0)))) else (some false))) = some r := H
                    have A37 := Aside0.mk A370
                    clear A370
                    by_cases c38 : t199 = 0
                    · rw [if_pos c38] at H
                      have c38b0 : (t199 == 0) = true := beq_iff_eq.mpr c38
                      have c38b1 : (t199 != 0) = false := bne_eq_false_iff_eq.mpr c38
                      clear c38
                      by_cases c39 : t197 = true
                      · subst c39
                        have H1 : (some false) = some r := by rw [if_pos rfl] at H; exact H
                        clear H
                        have H := H1
                        clear H1
                        obtain rfl := Option.some.inj H
                        go_wp2_with (first | ((with_reducible refine gate_callee (f := 21) rfl ?_); refine goesL_ (some 115) rfl rfl Try.func21 (by kernel_rfl) rfl #[.int .i64 a1, .int .i64 a2] rfl (by (try simp only [List.map_toArray, List.map_cons, List.map_nil]); first | done | rfl | (simp only [List.length_drop, List.length_take]; rfl)) ?_; (with_reducible refine (vari_Size.calls kj14 a1 a2 t192 t193 _ A33.out).mono ?_); rintro e w' ⟨rfl, ⟨nd, rfl⟩⟩; refine ⟨_, rfl, ?_⟩) | ((with_reducible refine gate_callee (f := 13) rfl ?_); refine goesL_ (some 122) rfl rfl Try.func13 (by kernel_rfl) rfl #[.int .i64 a1, .int .i64 a2, .agg #[.int .i64 0, .int .i64 0, .int .i64 0], .int .i64 0] rfl (by (try simp only [List.map_toArray, List.map_cons, List.map_nil]); first | done | rfl | (simp only [List.length_drop, List.length_take]; rfl)) ?_; (with_reducible refine (vari_Put.calls kj14 a1 a2 0 0 0 0 t194 true _ A34.out).mono ?_); rintro e w40 ⟨v195, rfl, ho0, hb⟩; refine ⟨_, rfl, ?_⟩; have n0_ := Aside0.mk (Kd.R_lower ho0 (below_size (by repeat (first | (with_reducible first | exact HB.out | apply below_alloc | apply pw_below_drewN | apply below_drew1) | exact HB.out)))); have n1_ := Aside0.mk (below_step (by repeat (first | (with_reducible first | exact HB.out | apply below_alloc | apply pw_below_drewN | apply below_drew1) | exact HB.out)) hb); clear HB; have HO196 := n0_; have HB := n1_; clear n0_ n1_; (try clear hb); (try clear hb2); (try clear hk); (try clear hi); (try clear ho0)) | ((with_reducible refine gate_callee (f := 12) rfl ?_); refine goesL_ (some 125) rfl rfl Try.func12 (by kernel_rfl) rfl #[] rfl (by (try simp only [List.map_toArray, List.map_cons, List.map_nil]); first | done | rfl | (simp only [List.length_drop, List.length_take]; rfl)) ?_; (with_reducible refine (yardlaw18_first.calls  true _ A35.out).mono ?_); rintro e w41 ⟨rfl, hb⟩; refine ⟨_, rfl, ?_⟩; have n0_ := Aside0.mk (Kd.R_below (by (with_reducible repeat (first | apply Kd.R_alloc | apply Kd.R_drewN | apply Kd.R_drew)); exact HO196.out) hb); have n1_ := Aside0.mk (below_step (by repeat (first | (with_reducible first | exact HB.out | apply below_alloc | apply pw_below_drewN | apply below_drew1) | exact HB.out)) hb); clear HO196; clear HB; have HO196 := n0_; have HB := n1_; clear n0_ n1_; (try clear hb); (try clear hb2); (try clear hk); (try clear hi)) | (go_at_call 14; (with_reducible refine (vari_Kind.calls kj14 a1 t199 _ A37.out).mono ?_); rintro e w' ⟨rfl, ⟨nd, rfl⟩⟩))
                        go_ret
                        exact ⟨by first | rfl | (simp [errW_none, errW_some] <;> rfl) | (simp [*, errW_none, errW_some] <;> rfl), by repeat (first | (with_reducible first | exact HB.out | apply below_alloc | apply pw_below_drewN | apply below_drew1) | exact HB.out)⟩
                      · replace c39 := Bool.eq_false_iff.mpr c39
                        subst c39
                        have H1 : (some (t193 == (decide (t192 > 0)))) = some r := by rw [if_neg (show ¬ (false = true) by decide)] at H; exact H
                        clear H
                        have H := H1
                        clear H1
                        obtain rfl := Option.some.inj H
                        go_wp2_with (first | ((with_reducible refine gate_callee (f := 21) rfl ?_); refine goesL_ (some 115) rfl rfl Try.func21 (by kernel_rfl) rfl #[.int .i64 a1, .int .i64 a2] rfl (by (try simp only [List.map_toArray, List.map_cons, List.map_nil]); first | done | rfl | (simp only [List.length_drop, List.length_take]; rfl)) ?_; (with_reducible refine (vari_Size.calls kj14 a1 a2 t192 t193 _ A33.out).mono ?_); rintro e w' ⟨rfl, ⟨nd, rfl⟩⟩; refine ⟨_, rfl, ?_⟩) | ((with_reducible refine gate_callee (f := 13) rfl ?_); refine goesL_ (some 122) rfl rfl Try.func13 (by kernel_rfl) rfl #[.int .i64 a1, .int .i64 a2, .agg #[.int .i64 0, .int .i64 0, .int .i64 0], .int .i64 0] rfl (by (try simp only [List.map_toArray, List.map_cons, List.map_nil]); first | done | rfl | (simp only [List.length_drop, List.length_take]; rfl)) ?_; (with_reducible refine (vari_Put.calls kj14 a1 a2 0 0 0 0 t194 false _ A34.out).mono ?_); rintro e w42 ⟨v195, rfl, ho0, hb⟩; refine ⟨_, rfl, ?_⟩; have n0_ := Aside0.mk (Kd.R_lower ho0 (below_size (by repeat (first | (with_reducible first | exact HB.out | apply below_alloc | apply pw_below_drewN | apply below_drew1) | exact HB.out)))); have n1_ := Aside0.mk (below_step (by repeat (first | (with_reducible first | exact HB.out | apply below_alloc | apply pw_below_drewN | apply below_drew1) | exact HB.out)) hb); clear HB; have HO196 := n0_; have HB := n1_; clear n0_ n1_; (try clear hb); (try clear hb2); (try clear hk); (try clear hi); (try clear ho0)) | ((with_reducible refine gate_callee (f := 12) rfl ?_); refine goesL_ (some 125) rfl rfl Try.func12 (by kernel_rfl) rfl #[] rfl (by (try simp only [List.map_toArray, List.map_cons, List.map_nil]); first | done | rfl | (simp only [List.length_drop, List.length_take]; rfl)) ?_; (with_reducible refine (yardlaw18_first.calls  true _ A35.out).mono ?_); rintro e w43 ⟨rfl, hb⟩; refine ⟨_, rfl, ?_⟩; have n0_ := Aside0.mk (Kd.R_below (by (with_reducible repeat (first | apply Kd.R_alloc | apply Kd.R_drewN | apply Kd.R_drew)); exact HO196.out) hb); have n1_ := Aside0.mk (below_step (by repeat (first | (with_reducible first | exact HB.out | apply below_alloc | apply pw_below_drewN | apply below_drew1) | exact HB.out)) hb); clear HO196; clear HB; have HO196 := n0_; have HB := n1_; clear n0_ n1_; (try clear hb); (try clear hb2); (try clear hk); (try clear hi)) | (go_at_call 14; (with_reducible refine (vari_Kind.calls kj14 a1 t199 _ A37.out).mono ?_); rintro e w' ⟨rfl, ⟨nd, rfl⟩⟩))
                        go_ret
                        exact ⟨by first | rfl | (simp [errW_none, errW_some] <;> rfl) | (simp [*, errW_none, errW_some] <;> rfl), by repeat (first | (with_reducible first | exact HB.out | apply below_alloc | apply pw_below_drewN | apply below_drew1) | exact HB.out)⟩
                    · rw [if_neg c38] at H
                      have c38b0 : (t199 == 0) = false := beq_eq_false_iff_ne.mpr c38
                      have c38b1 : (t199 != 0) = true := bne_iff_ne.mpr c38
                      by_cases c44 : (t193 == t197) = true
                      · rw [if_pos c44] at H
                        have c44b0 : (t193 == t197) = true := c44
                        (try (have c44b1 : decide (t193 = t197) = true := by simpa using c44))
                        (try (have c44b2 : (t193 == t197) = true := by simpa using c44))
                        clear c44
                        obtain rfl := Option.some.inj H
                        go_wp2_with (first | ((with_reducible refine gate_callee (f := 21) rfl ?_); refine goesL_ (some 115) rfl rfl Try.func21 (by kernel_rfl) rfl #[.int .i64 a1, .int .i64 a2] rfl (by (try simp only [List.map_toArray, List.map_cons, List.map_nil]); first | done | rfl | (simp only [List.length_drop, List.length_take]; rfl)) ?_; (with_reducible refine (vari_Size.calls kj14 a1 a2 t192 t193 _ A33.out).mono ?_); rintro e w' ⟨rfl, ⟨nd, rfl⟩⟩; refine ⟨_, rfl, ?_⟩) | ((with_reducible refine gate_callee (f := 13) rfl ?_); refine goesL_ (some 122) rfl rfl Try.func13 (by kernel_rfl) rfl #[.int .i64 a1, .int .i64 a2, .agg #[.int .i64 0, .int .i64 0, .int .i64 0], .int .i64 0] rfl (by (try simp only [List.map_toArray, List.map_cons, List.map_nil]); first | done | rfl | (simp only [List.length_drop, List.length_take]; rfl)) ?_; (with_reducible refine (vari_Put.calls kj14 a1 a2 0 0 0 0 t194 t197 _ A34.out).mono ?_); rintro e w45 ⟨v195, rfl, ho0, hb⟩; refine ⟨_, rfl, ?_⟩; have n0_ := Aside0.mk (Kd.R_lower ho0 (below_size (by repeat (first | (with_reducible first | exact HB.out | apply below_alloc | apply pw_below_drewN | apply below_drew1) | exact HB.out)))); have n1_ := Aside0.mk (below_step (by repeat (first | (with_reducible first | exact HB.out | apply below_alloc | apply pw_below_drewN | apply below_drew1) | exact HB.out)) hb); clear HB; have HO196 := n0_; have HB := n1_; clear n0_ n1_; (try clear hb); (try clear hb2); (try clear hk); (try clear hi); (try clear ho0)) | ((with_reducible refine gate_callee (f := 12) rfl ?_); refine goesL_ (some 125) rfl rfl Try.func12 (by kernel_rfl) rfl #[] rfl (by (try simp only [List.map_toArray, List.map_cons, List.map_nil]); first | done | rfl | (simp only [List.length_drop, List.length_take]; rfl)) ?_; (with_reducible refine (yardlaw18_first.calls  true _ A35.out).mono ?_); rintro e w46 ⟨rfl, hb⟩; refine ⟨_, rfl, ?_⟩; have n0_ := Aside0.mk (Kd.R_below (by (with_reducible repeat (first | apply Kd.R_alloc | apply Kd.R_drewN | apply Kd.R_drew)); exact HO196.out) hb); have n1_ := Aside0.mk (below_step (by repeat (first | (with_reducible first | exact HB.out | apply below_alloc | apply pw_below_drewN | apply below_drew1) | exact HB.out)) hb); clear HO196; clear HB; have HO196 := n0_; have HB := n1_; clear n0_ n1_; (try clear hb); (try clear hb2); (try clear hk); (try clear hi)) | (go_at_call 14; (with_reducible refine (vari_Kind.calls kj14 a1 t199 _ A37.out).mono ?_); rintro e w' ⟨rfl, ⟨nd, rfl⟩⟩))
                        go_ret
                        exact ⟨by first | rfl | (simp [errW_none, errW_some] <;> rfl) | (simp [*, errW_none, errW_some] <;> rfl), by repeat (first | (with_reducible first | exact HB.out | apply below_alloc | apply pw_below_drewN | apply below_drew1) | exact HB.out)⟩
                      · rw [if_neg c44] at H
                        have c44b0 : (t193 == t197) = false := by simpa using c44
                        (try (have c44b1 : decide (t193 = t197) = false := by simpa using c44))
                        (try (have c44b2 : (t193 == t197) = false := by simpa using c44))
                        (try (have c44b3 : ¬ (t193 = t197) := by simpa using c44))
                        clear c44
                        obtain rfl := Option.some.inj H
                        go_wp2_with (first | ((with_reducible refine gate_callee (f := 21) rfl ?_); refine goesL_ (some 115) rfl rfl Try.func21 (by kernel_rfl) rfl #[.int .i64 a1, .int .i64 a2] rfl (by (try simp only [List.map_toArray, List.map_cons, List.map_nil]); first | done | rfl | (simp only [List.length_drop, List.length_take]; rfl)) ?_; (with_reducible refine (vari_Size.calls kj14 a1 a2 t192 t193 _ A33.out).mono ?_); rintro e w' ⟨rfl, ⟨nd, rfl⟩⟩; refine ⟨_, rfl, ?_⟩) | ((with_reducible refine gate_callee (f := 13) rfl ?_); refine goesL_ (some 122) rfl rfl Try.func13 (by kernel_rfl) rfl #[.int .i64 a1, .int .i64 a2, .agg #[.int .i64 0, .int .i64 0, .int .i64 0], .int .i64 0] rfl (by (try simp only [List.map_toArray, List.map_cons, List.map_nil]); first | done | rfl | (simp only [List.length_drop, List.length_take]; rfl)) ?_; (with_reducible refine (vari_Put.calls kj14 a1 a2 0 0 0 0 t194 t197 _ A34.out).mono ?_); rintro e w47 ⟨v195, rfl, ho0, hb⟩; refine ⟨_, rfl, ?_⟩; have n0_ := Aside0.mk (Kd.R_lower ho0 (below_size (by repeat (first | (with_reducible first | exact HB.out | apply below_alloc | apply pw_below_drewN | apply below_drew1) | exact HB.out)))); have n1_ := Aside0.mk (below_step (by repeat (first | (with_reducible first | exact HB.out | apply below_alloc | apply pw_below_drewN | apply below_drew1) | exact HB.out)) hb); clear HB; have HO196 := n0_; have HB := n1_; clear n0_ n1_; (try clear hb); (try clear hb2); (try clear hk); (try clear hi); (try clear ho0)) | ((with_reducible refine gate_callee (f := 12) rfl ?_); refine goesL_ (some 125) rfl rfl Try.func12 (by kernel_rfl) rfl #[] rfl (by (try simp only [List.map_toArray, List.map_cons, List.map_nil]); first | done | rfl | (simp only [List.length_drop, List.length_take]; rfl)) ?_; (with_reducible refine (yardlaw18_first.calls  true _ A35.out).mono ?_); rintro e w48 ⟨rfl, hb⟩; refine ⟨_, rfl, ?_⟩; have n0_ := Aside0.mk (Kd.R_below (by (with_reducible repeat (first | apply Kd.R_alloc | apply Kd.R_drewN | apply Kd.R_drew)); exact HO196.out) hb); have n1_ := Aside0.mk (below_step (by repeat (first | (with_reducible first | exact HB.out | apply below_alloc | apply pw_below_drewN | apply below_drew1) | exact HB.out)) hb); clear HO196; clear HB; have HO196 := n0_; have HB := n1_; clear n0_ n1_; (try clear hb); (try clear hb2); (try clear hk); (try clear hi)) | (go_at_call 14; (with_reducible refine (vari_Kind.calls kj14 a1 t199 _ A37.out).mono ?_); rintro e w' ⟨rfl, ⟨nd, rfl⟩⟩))
                        go_ret
                        exact ⟨by first | rfl | (simp [errW_none, errW_some] <;> rfl) | (simp [*, errW_none, errW_some] <;> rfl), by repeat (first | (with_reducible first | exact HB.out | apply below_alloc | apply pw_below_drewN | apply below_drew1) | exact HB.out)⟩
                  · replace c36 := Bool.eq_false_iff.mpr c36
                    subst c36
                    have H1 : (some false) = some r := by rw [if_neg (show ¬ (false = true) by decide)] at H; exact H
                    clear H
                    have H := H1
                    clear H1
                    obtain rfl := Option.some.inj H
                    go_wp2_with (first | ((with_reducible refine gate_callee (f := 21) rfl ?_); refine goesL_ (some 115) rfl rfl Try.func21 (by kernel_rfl) rfl #[.int .i64 a1, .int .i64 a2] rfl (by (try simp only [List.map_toArray, List.map_cons, List.map_nil]); first | done | rfl | (simp only [List.length_drop, List.length_take]; rfl)) ?_; (with_reducible refine (vari_Size.calls kj14 a1 a2 t192 t193 _ A33.out).mono ?_); rintro e w' ⟨rfl, ⟨nd, rfl⟩⟩; refine ⟨_, rfl, ?_⟩) | ((with_reducible refine gate_callee (f := 13) rfl ?_); refine goesL_ (some 122) rfl rfl Try.func13 (by kernel_rfl) rfl #[.int .i64 a1, .int .i64 a2, .agg #[.int .i64 0, .int .i64 0, .int .i64 0], .int .i64 0] rfl (by (try simp only [List.map_toArray, List.map_cons, List.map_nil]); first | done | rfl | (simp only [List.length_drop, List.length_take]; rfl)) ?_; (with_reducible refine (vari_Put.calls kj14 a1 a2 0 0 0 0 t194 t197 _ A34.out).mono ?_); rintro e w49 ⟨v195, rfl, ho0, hb⟩; refine ⟨_, rfl, ?_⟩; have n0_ := Aside0.mk (Kd.R_lower ho0 (below_size (by repeat (first | (with_reducible first | exact HB.out | apply below_alloc | apply pw_below_drewN | apply below_drew1) | exact HB.out)))); have n1_ := Aside0.mk (below_step (by repeat (first | (with_reducible first | exact HB.out | apply below_alloc | apply pw_below_drewN | apply below_drew1) | exact HB.out)) hb); clear HB; have HO196 := n0_; have HB := n1_; clear n0_ n1_; (try clear hb); (try clear hb2); (try clear hk); (try clear hi); (try clear ho0)) | ((with_reducible refine gate_callee (f := 12) rfl ?_); refine goesL_ (some 125) rfl rfl Try.func12 (by kernel_rfl) rfl #[] rfl (by (try simp only [List.map_toArray, List.map_cons, List.map_nil]); first | done | rfl | (simp only [List.length_drop, List.length_take]; rfl)) ?_; (with_reducible refine (yardlaw18_first.calls  false _ A35.out).mono ?_); rintro e w50 ⟨rfl, hb⟩; refine ⟨_, rfl, ?_⟩; have n0_ := Aside0.mk (Kd.R_below (by (with_reducible repeat (first | apply Kd.R_alloc | apply Kd.R_drewN | apply Kd.R_drew)); exact HO196.out) hb); have n1_ := Aside0.mk (below_step (by repeat (first | (with_reducible first | exact HB.out | apply below_alloc | apply pw_below_drewN | apply below_drew1) | exact HB.out)) hb); clear HO196; clear HB; have HO196 := n0_; have HB := n1_; clear n0_ n1_; (try clear hb); (try clear hb2); (try clear hk); (try clear hi)))
                    go_ret
                    exact ⟨by first | rfl | (simp [errW_none, errW_some] <;> rfl) | (simp [*, errW_none, errW_some] <;> rfl), by repeat (first | (with_reducible first | exact HB.out | apply below_alloc | apply pw_below_drewN | apply below_drew1) | exact HB.out)⟩
  · replace c5 := Bool.eq_false_iff.mpr c5
    subst c5
    have H1 : (some false) = some r := by rw [if_neg (show ¬ (false = true) by decide)] at H; exact H
    clear H
    have H := H1
    clear H1
    obtain rfl := Option.some.inj H
    go_enter Try.func9, Try.ntmps9
    go_wp2_with (first | ((with_reducible refine gate_callee (f := 12) rfl ?_); refine goesL_ (some 21) rfl rfl Try.func12 (by kernel_rfl) rfl #[] rfl (by (try simp only [List.map_toArray, List.map_cons, List.map_nil]); first | done | rfl | (simp only [List.length_drop, List.length_take]; rfl)) ?_; (with_reducible refine (yardlaw18_first.calls  false _ A4.out).mono ?_); rintro e w51 ⟨rfl, hb⟩; refine ⟨_, rfl, ?_⟩; have n0_ := Aside0.mk (below_step (by repeat (first | (with_reducible first | exact HB.out | apply below_alloc | apply pw_below_drewN | apply below_drew1) | exact HB.out)) hb); clear HB; have HB := n0_; clear n0_; (try clear hb); (try clear hb2); (try clear hk); (try clear hi)))
    go_ret
    exact ⟨by first | rfl | (simp [errW_none, errW_some] <;> rfl) | (simp [*, errW_none, errW_some] <;> rfl), by repeat (first | (with_reducible first | exact HB.out | apply below_alloc | apply pw_below_drewN | apply below_drew1) | exact HB.out)⟩

/-- THE ONE PURE STATEMENT of yardlaw18_VariKinds: yours. -/
def yardlaw18_VariKinds.Pure : Prop := ∀ (a0 : Int) (a1 : Int) (a2 : Int), (Lit.int .i64 a0).wf = true → (Lit.int .i64 a1).wf = true → (Lit.int .i64 a2).wf = true → ∃ k, yardlaw18_VariKinds.f k a0 a1 a2 = some true
theorem yardlaw18_VariKinds.walk (P : yardlaw18_VariKinds.Pure) (a0 : Int) (a1 : Int) (a2 : Int) (w : World) (w0 : (Lit.int .i64 a0).wf = true) (w1 : (Lit.int .i64 a1).wf = true) (w2 : (Lit.int .i64 a2).wf = true) :
    Calls Try.prog 9 #[.int .i64 a0, .int .i64 a1, .int .i64 a2] w fun e w' => e = .returned (.bool true) ∧ Below w.heap.size w w' := by
  obtain ⟨k, h⟩ := P a0 a1 a2 w0 w1 w2
  refine (yardlaw18_VariKinds.calls k a0 a1 a2 true w h).mono ?_
  rintro e w' ⟨rfl, hd⟩
  exact ⟨rfl, hd⟩

end Go.Proofs.Ytpchlljelbpanaa.PVari2
