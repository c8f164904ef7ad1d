/- The walk of HeadWidths. -/
import Derived.Test.YtgihcfkcghohnaaBack
namespace Go.Proofs.Ytgihcfkcghohnaa.Head
open Go.RowKit Go.Proofs.Ytgihcfkcghohnaa.Sk Go.Proofs.Ytgihcfkcghohnaa.Num Go.Proofs.Ytgihcfkcghohnaa.Wire

theorem rd_addr {w : World} {c : Col} {S : List Nat} {A : Option Addr} {n cap : Nat} {xs : List Int} (h : Rd u8 w c S (.slice A n cap) xs) (hp : 0 < xs.length) : ∃ q o, A = some ⟨q, o, none⟩ := by
  obtain ⟨A', cap', e, _, _, h3⟩ := h.form
  injection e with e1 _ _
  obtain ⟨q, o, e, _⟩ := h3 hp
  exact ⟨q, o, e1.trans e⟩
theorem rd_cellAt {w : World} {c : Col} {S : List Nat} {q o m cap : Nat} {b : List Int} {x : Int} (h : Rd u8 w c S (.slice (some ⟨q, o, none⟩) m cap) b) (i : Nat) (hx : b[i]? = some x) : w.cell? ⟨q, o + i, none⟩ = some (.int .u8 x) := by
  have hlt := (List.getElem?_eq_some_iff.1 hx).1
  obtain ⟨A', cap', e, _, _, h3⟩ := h.form
  injection e with e1 _ _
  obtain ⟨q', o', e, _, _, hc⟩ := h3 (by omega)
  rw [← e1] at e
  injection e with e
  injection e with e2 e3 _
  subst e2 e3
  obtain ⟨cs, ⟨hk, _⟩, hj⟩ := hc i x hx
  have := hj 0 (.int .u8 x) (by rw [hk]; rfl)
  simpa [u8, kint] using this
set_option maxRecDepth 100000 in
set_option maxHeartbeats 3200000 in
theorem widths_bad (g v f l n : Int) (h : ¬ (0 ≤ g ∧ g ≤ 255 ∧ 0 ≤ v ∧ v ≤ 255 ∧ 0 ≤ f ∧ f ≤ l ∧ l ≤ 255 ∧ 1 ≤ n ∧ n ≤ 255)) (w : World) :
    Calls Try.prog 5 #[.int .i64 g, .int .i64 v, .int .i64 f, .int .i64 l, .int .i64 n] w fun e w' => e = .returned (.bool true) ∧ Below w.heap.size w w' := by
  have hF := fun w c => first_calls w c
  have HF := Lib.hid hF
  clear hF
  have hE0 := Ext.refl [] w (fun _ => 0)
  have key : ∀ b1 b2 b3 b4 b5 b6 b7 b8 b9 : Bool, decide (g < 0) = b1 → decide (255 < g) = b2 → decide (v < 0) = b3 → decide (255 < v) = b4 → decide (f < 0) = b5 → decide (l < f) = b6 → decide (255 < l) = b7 → decide (n < 1) = b8 → decide (255 < n) = b9 → (b1 || b2 || b3 || b4 || b5 || b6 || b7 || b8 || b9) = true →
      Calls Try.prog 5 #[.int .i64 g, .int .i64 v, .int .i64 f, .int .i64 l, .int .i64 n] w fun e w' => e = .returned (.bool true) ∧ Below w.heap.size w w' := by
    clear h
    intro b1 b2 b3 b4 b5 b6 b7 b8 b9 e1 e2 e3 e4 e5 e6 e7 e8 e9 hb
    cases b1
    case false =>
      cases b2
      case false =>
        cases b3
        case false =>
          cases b4
          case false =>
            cases b5
            case false =>
              cases b6
              case false =>
                cases b7
                case false =>
                  cases b8
                  case false =>
                    cases b9
                    case false =>
                      cases hb
                    case true =>
                      go_enter Try.func5, Try.ntmps5
                      go_wp2_with (first
                        | (go_at_call 7
                           have hE0' := hE0
                           refine (HF.out _ (fun _ => 0)).mono ?_
                           rintro e w1 ⟨c1, rfl, he1⟩
                           have hE1 := hE0.trans he1
                           clear he1 hE0 hE0')
                        | (go_at_call 7
                           refine (HF.out _ c1).mono ?_
                           rintro e w2 ⟨c2, rfl, he2⟩
                           have hE2 := hE1.trans he2
                           clear he2 hE1))
                      go_ret
                      exact ⟨rfl, hE2.belowAll⟩
                  case true =>
                    go_enter Try.func5, Try.ntmps5
                    go_wp2_with (first
                      | (go_at_call 7
                         have hE0' := hE0
                         refine (HF.out _ (fun _ => 0)).mono ?_
                         rintro e w1 ⟨c1, rfl, he1⟩
                         have hE1 := hE0.trans he1
                         clear he1 hE0 hE0')
                      | (go_at_call 7
                         refine (HF.out _ c1).mono ?_
                         rintro e w2 ⟨c2, rfl, he2⟩
                         have hE2 := hE1.trans he2
                         clear he2 hE1))
                    go_ret
                    exact ⟨rfl, hE2.belowAll⟩
                case true =>
                  go_enter Try.func5, Try.ntmps5
                  go_wp2_with (first
                    | (go_at_call 7
                       have hE0' := hE0
                       refine (HF.out _ (fun _ => 0)).mono ?_
                       rintro e w1 ⟨c1, rfl, he1⟩
                       have hE1 := hE0.trans he1
                       clear he1 hE0 hE0')
                    | (go_at_call 7
                       refine (HF.out _ c1).mono ?_
                       rintro e w2 ⟨c2, rfl, he2⟩
                       have hE2 := hE1.trans he2
                       clear he2 hE1))
                  go_ret
                  exact ⟨rfl, hE2.belowAll⟩
              case true =>
                go_enter Try.func5, Try.ntmps5
                go_wp2_with (first
                  | (go_at_call 7
                     have hE0' := hE0
                     refine (HF.out _ (fun _ => 0)).mono ?_
                     rintro e w1 ⟨c1, rfl, he1⟩
                     have hE1 := hE0.trans he1
                     clear he1 hE0 hE0')
                  | (go_at_call 7
                     refine (HF.out _ c1).mono ?_
                     rintro e w2 ⟨c2, rfl, he2⟩
                     have hE2 := hE1.trans he2
                     clear he2 hE1))
                go_ret
                exact ⟨rfl, hE2.belowAll⟩
            case true =>
              go_enter Try.func5, Try.ntmps5
              go_wp2_with (first
                | (go_at_call 7
                   have hE0' := hE0
                   refine (HF.out _ (fun _ => 0)).mono ?_
                   rintro e w1 ⟨c1, rfl, he1⟩
                   have hE1 := hE0.trans he1
                   clear he1 hE0 hE0')
                | (go_at_call 7
                   refine (HF.out _ c1).mono ?_
                   rintro e w2 ⟨c2, rfl, he2⟩
                   have hE2 := hE1.trans he2
                   clear he2 hE1))
              go_ret
              exact ⟨rfl, hE2.belowAll⟩
          case true =>
            go_enter Try.func5, Try.ntmps5
            go_wp2_with (first
              | (go_at_call 7
                 have hE0' := hE0
                 refine (HF.out _ (fun _ => 0)).mono ?_
                 rintro e w1 ⟨c1, rfl, he1⟩
                 have hE1 := hE0.trans he1
                 clear he1 hE0 hE0')
              | (go_at_call 7
                 refine (HF.out _ c1).mono ?_
                 rintro e w2 ⟨c2, rfl, he2⟩
                 have hE2 := hE1.trans he2
                 clear he2 hE1))
            go_ret
            exact ⟨rfl, hE2.belowAll⟩
        case true =>
          go_enter Try.func5, Try.ntmps5
          go_wp2_with (first
            | (go_at_call 7
               have hE0' := hE0
               refine (HF.out _ (fun _ => 0)).mono ?_
               rintro e w1 ⟨c1, rfl, he1⟩
               have hE1 := hE0.trans he1
               clear he1 hE0 hE0')
            | (go_at_call 7
               refine (HF.out _ c1).mono ?_
               rintro e w2 ⟨c2, rfl, he2⟩
               have hE2 := hE1.trans he2
               clear he2 hE1))
          go_ret
          exact ⟨rfl, hE2.belowAll⟩
      case true =>
        go_enter Try.func5, Try.ntmps5
        go_wp2_with (first
          | (go_at_call 7
             have hE0' := hE0
             refine (HF.out _ (fun _ => 0)).mono ?_
             rintro e w1 ⟨c1, rfl, he1⟩
             have hE1 := hE0.trans he1
             clear he1 hE0 hE0')
          | (go_at_call 7
             refine (HF.out _ c1).mono ?_
             rintro e w2 ⟨c2, rfl, he2⟩
             have hE2 := hE1.trans he2
             clear he2 hE1))
        go_ret
        exact ⟨rfl, hE2.belowAll⟩
    case true =>
      go_enter Try.func5, Try.ntmps5
      go_wp2_with (first
        | (go_at_call 7
           have hE0' := hE0
           refine (HF.out _ (fun _ => 0)).mono ?_
           rintro e w1 ⟨c1, rfl, he1⟩
           have hE1 := hE0.trans he1
           clear he1 hE0 hE0')
        | (go_at_call 7
           refine (HF.out _ c1).mono ?_
           rintro e w2 ⟨c2, rfl, he2⟩
           have hE2 := hE1.trans he2
           clear he2 hE1))
      go_ret
      exact ⟨rfl, hE2.belowAll⟩
  exact key _ _ _ _ _ _ _ _ _ rfl rfl rfl rfl rfl rfl rfl rfl rfl (by simp only [Bool.or_eq_true, decide_eq_true_eq]; omega)
set_option maxHeartbeats 3200000 in
set_option maxRecDepth 100000 in
theorem widths_good (g v f l n : Int) (h : 0 ≤ g ∧ g ≤ 255 ∧ 0 ≤ v ∧ v ≤ 255 ∧ 0 ≤ f ∧ f ≤ l ∧ l ≤ 255 ∧ 1 ≤ n ∧ n ≤ 255) (w : World) :
    Calls Try.prog 5 #[.int .i64 g, .int .i64 v, .int .i64 f, .int .i64 l, .int .i64 n] w fun e w' => e = .returned (.bool true) ∧ Below w.heap.size w w' := by
  have hF := fun w c => first_calls w c
  have HF := Lib.hid hF
  clear hF
  obtain ⟨g0, g1, v0, v1, f0, f1, l1, n0, n1⟩ := h
  have hE0 := Ext.refl [] w (fun _ => 0)
  have k0 : highV 0 = 255 := by decide
  have k1 : highV 1 = 65535 := by decide
  have k7 : highV 7 = 255 := by decide
  have k8 : highV 8 = 65535 := by decide
  have m0 : (Hdr.mk g v 0 f l (l - f + 1)).may := ⟨rfl, g0, g1, v0, v1, by rw [if_pos (Or.inl rfl)]; exact ⟨f0, f1, by show l ≤ highV 0; omega, rfl⟩⟩
  have m1 : (Hdr.mk g v 1 f l (l - f + 1)).may := ⟨rfl, g0, g1, v0, v1, by rw [if_pos (Or.inr rfl)]; exact ⟨f0, f1, by show l ≤ highV 1; omega, rfl⟩⟩
  have m7 : (Hdr.mk g v 7 0 0 n).may := ⟨rfl, g0, g1, v0, v1, by rw [if_neg (by simp)]; refine ⟨rfl, rfl, ?_⟩; rw [if_neg (by simp)]; exact ⟨n0, by show n ≤ highV 7; omega⟩⟩
  have m8 : (Hdr.mk g v 8 0 0 n).may := ⟨rfl, g0, g1, v0, v1, by rw [if_neg (by simp)]; refine ⟨rfl, rfl, ?_⟩; rw [if_neg (by simp)]; exact ⟨n0, by show n ≤ highV 8; omega⟩⟩
  have b0 : (Hdr.mk g v 0 f l (l - f + 1)).bytes = [g, v, 0, f, l] := by
    show [g, v, 0, f % 256, l % 256] = _
    rw [Int.emod_eq_of_lt f0 (by omega), Int.emod_eq_of_lt (by omega) (by omega)]
  have b1 : (Hdr.mk g v 1 f l (l - f + 1)).bytes = [g, v, 1, f, 0, l, 0] := by
    show [g, v, 1, f % 256, f / 256 % 256, l % 256, l / 256 % 256] = _
    rw [Int.emod_eq_of_lt f0 (by omega), Int.emod_eq_of_lt (by omega : 0 ≤ l) (by omega), show f / 256 = 0 by omega, show l / 256 = 0 by omega]
    rfl
  have b7 : (Hdr.mk g v 7 0 0 n).bytes = [g, v, 7, n] := by
    show [g, v, 7, n % 256] = _
    rw [Int.emod_eq_of_lt (by omega) (by omega)]
  have b8 : (Hdr.mk g v 8 0 0 n).bytes = [g, v, 8, n, 0] := by
    show [g, v, 8, n % 256, n / 256 % 256] = _
    rw [Int.emod_eq_of_lt (by omega) (by omega), show n / 256 = 0 by omega]
    rfl
  have P0 : ∀ w c, Calls Try.prog 8 #[.agg #[.int .i64 g, .int .i64 v, .int .i64 0, .int .i64 f, .int .i64 l, .int .i64 (l - f + 1)]] w (fun e w' => ∃ A cap c', e = .returned (.tuple #[.slice A 5 cap, .nilIface]) ∧ Own u8 5 w' c' 1 [] w.heap.size (.slice A 5 cap) [g, v, 0, f, l] ∧ Ext [] w c w' c') := fun w c => by
    have := print_ok _ w c 1 m0; unfold PrintOk at this; rw [b0] at this; exact this
  have P1 : ∀ w c, Calls Try.prog 8 #[.agg #[.int .i64 g, .int .i64 v, .int .i64 1, .int .i64 f, .int .i64 l, .int .i64 (l - f + 1)]] w (fun e w' => ∃ A cap c', e = .returned (.tuple #[.slice A 7 cap, .nilIface]) ∧ Own u8 5 w' c' 1 [] w.heap.size (.slice A 7 cap) [g, v, 1, f, 0, l, 0] ∧ Ext [] w c w' c') := fun w c => by
    have := print_ok _ w c 1 m1; unfold PrintOk at this; rw [b1] at this; exact this
  have P7 : ∀ w c, Calls Try.prog 8 #[.agg #[.int .i64 g, .int .i64 v, .int .i64 7, .int .i64 0, .int .i64 0, .int .i64 n]] w (fun e w' => ∃ A cap c', e = .returned (.tuple #[.slice A 4 cap, .nilIface]) ∧ Own u8 5 w' c' 1 [] w.heap.size (.slice A 4 cap) [g, v, 7, n] ∧ Ext [] w c w' c') := fun w c => by
    have := print_ok _ w c 1 m7; unfold PrintOk at this; rw [b7] at this; exact this
  have P8 : ∀ w c, Calls Try.prog 8 #[.agg #[.int .i64 g, .int .i64 v, .int .i64 8, .int .i64 0, .int .i64 0, .int .i64 n]] w (fun e w' => ∃ A cap c', e = .returned (.tuple #[.slice A 5 cap, .nilIface]) ∧ Own u8 5 w' c' 1 [] w.heap.size (.slice A 5 cap) [g, v, 8, n, 0] ∧ Ext [] w c w' c') := fun w c => by
    have := print_ok _ w c 1 m8; unfold PrintOk at this; rw [b8] at this; exact this
  have Q0 : ∀ w c A cap, Rd u8 w c [1] (.slice A 5 cap) [g, v, 0, f, l] → Calls Try.prog 11 #[.slice A 5 cap, .int .i64 0] w (fun e w' => ∃ c', e = .returned (.tuple #[.agg #[.int .i64 g, .int .i64 v, .int .i64 0, .int .i64 f, .int .i64 l, .int .i64 (l - f + 1)], .int .i64 5, .nilIface]) ∧ Ext [] w c w' c') := fun w c A cap hr => by
    have := parse_calls _ 0 _ w c [1] 0 hr (by simp) (by omega)
    unfold ParsePost at this
    have hp := parse_back _ m0 [] []
    rw [b0] at hp
    rw [show parseS [g, v, 0, f, l] 0 = _ from hp] at this
    exact this
  have Q1 : ∀ w c A cap, Rd u8 w c [1] (.slice A 7 cap) [g, v, 1, f, 0, l, 0] → Calls Try.prog 11 #[.slice A 7 cap, .int .i64 0] w (fun e w' => ∃ c', e = .returned (.tuple #[.agg #[.int .i64 g, .int .i64 v, .int .i64 1, .int .i64 f, .int .i64 l, .int .i64 (l - f + 1)], .int .i64 7, .nilIface]) ∧ Ext [] w c w' c') := fun w c A cap hr => by
    have := parse_calls _ 0 _ w c [1] 0 hr (by simp) (by omega)
    unfold ParsePost at this
    have hp := parse_back _ m1 [] []
    rw [b1] at hp
    rw [show parseS [g, v, 1, f, 0, l, 0] 0 = _ from hp] at this
    exact this
  have HP0 := Lib.hid P0
  have HP1 := Lib.hid P1
  have HP7 := Lib.hid P7
  have HP8 := Lib.hid P8
  have HQ0 := Lib.hid Q0
  have HQ1 := Lib.hid Q1
  clear P0 P1 P7 P8 Q0 Q1 b0 b1 b7 b8 m0 m1 m7 m8 k0 k1 k7 k8
  have e1 : decide (g < 0) = false := decide_eq_false (by omega)
  have e2 : decide (255 < g) = false := decide_eq_false (by omega)
  have e3 : decide (v < 0) = false := decide_eq_false (by omega)
  have e4 : decide (255 < v) = false := decide_eq_false (by omega)
  have e5 : decide (f < 0) = false := decide_eq_false (by omega)
  have e6 : decide (l < f) = false := decide_eq_false (by omega)
  have e7 : decide (255 < l) = false := decide_eq_false (by omega)
  have e8 : decide (n < 1) = false := decide_eq_false (by omega)
  have e9 : decide (255 < n) = false := decide_eq_false (by omega)
  go_enter Try.func5, Try.ntmps5
  go_wp2_with (first
    | (go_at_call 7
       have hE0' := hE0
       refine (HF.out _ (fun _ => 0)).mono ?_
       rintro e w1 ⟨c1, rfl, he1⟩
       have hE1 := hE0.trans he1
       clear he1 hE0 hE0')
    | (go_at_call 8
       have htok := hE1
       clear htok
       refine (HP0.out _ c1).mono ?_
       rintro e w2 ⟨A2, cap2, c2, rfl, ho2, he2⟩
       have hE2 := hE1.trans he2
       have hr2 : Rd u8 w2 c2 [1] (.slice A2 5 cap2) [g, v, 0, f, l] := ho2.rd (by simp) (by simp)
       clear hE1 he2 ho2)
    | (go_at_call 8
       have htok := hE2
       clear htok
       refine (HP1.out _ c2).mono ?_
       rintro e w3 ⟨A3, cap3, c3, rfl, ho3, he3⟩
       have hE3 := hE2.trans he3
       replace hr2 := hr2.ext he3 (by simp)
       have hr3 : Rd u8 w3 c3 [1] (.slice A3 7 cap3) [g, v, 1, f, 0, l, 0] := ho3.rd (by simp) (by simp)
       clear hE2 he3 ho3)
    | (go_at_call 8
       have htok := hE3
       clear htok
       refine (HP7.out _ c3).mono ?_
       rintro e w4 ⟨A4, cap4, c4, rfl, ho4, he4⟩
       have hE4 := hE3.trans he4
       replace hr2 := hr2.ext he4 (by simp)
       replace hr3 := hr3.ext he4 (by simp)
       have hr4 : Rd u8 w4 c4 [1] (.slice A4 4 cap4) [g, v, 7, n] := ho4.rd (by simp) (by simp)
       clear hE3 he4 ho4)
    | (go_at_call 8
       have htok := hE4
       clear htok
       refine (HP8.out _ c4).mono ?_
       rintro e w5 ⟨A5, cap5, c5, rfl, ho5, he5⟩
       have hE5 := hE4.trans he5
       replace hr2 := hr2.ext he5 (by simp)
       replace hr3 := hr3.ext he5 (by simp)
       replace hr4 := hr4.ext he5 (by simp)
       have hr5 : Rd u8 w5 c5 [1] (.slice A5 5 cap5) [g, v, 8, n, 0] := ho5.rd (by simp) (by simp)
       clear hE4 he5 ho5)
    | (go_at_call 11
       have htok := hE5
       clear htok
       refine (HQ0.out _ c5 _ _ hr2).mono ?_
       rintro e w6 ⟨c6, rfl, he6⟩
       have hE6 := (hE5.trans he6).trans (Ext.alloc [] w6 c6 (.cells #[.int .i64 g, .int .i64 v, .int .i64 0, .int .i64 f, .int .i64 l, .int .i64 (l - f + 1)] 23) 0)
       have hb6 := Bx.new w6 c6 0 #[.int .i64 g, .int .i64 v, .int .i64 0, .int .i64 f, .int .i64 l, .int .i64 (l - f + 1)] 23
       replace hr3 := (hr3.ext he6 (by simp)).ext (Ext.alloc [] w6 c6 (.cells #[.int .i64 g, .int .i64 v, .int .i64 0, .int .i64 f, .int .i64 l, .int .i64 (l - f + 1)] 23) 0) (by simp)
       replace hr4 := (hr4.ext he6 (by simp)).ext (Ext.alloc [] w6 c6 (.cells #[.int .i64 g, .int .i64 v, .int .i64 0, .int .i64 f, .int .i64 l, .int .i64 (l - f + 1)] 23) 0) (by simp)
       replace hr5 := (hr5.ext he6 (by simp)).ext (Ext.alloc [] w6 c6 (.cells #[.int .i64 g, .int .i64 v, .int .i64 0, .int .i64 f, .int .i64 l, .int .i64 (l - f + 1)] 23) 0) (by simp)
       clear hE5 he6 hr2)
    | (go_at_call 11
       have htok := hE6
       clear htok
       refine (HQ1.out _ (cx c6 w6.heap.size 0) _ _ hr3).mono ?_
       rintro e w7 ⟨c7, rfl, he7⟩
       have hx := Ext.alloc [] w7 c7 (.cells #[.int .i64 g, .int .i64 v, .int .i64 1, .int .i64 f, .int .i64 l, .int .i64 (l - f + 1)] 23) 0
       have hE7 := (hE6.trans he7).trans hx
       have hb7 := Bx.new w7 c7 0 #[.int .i64 g, .int .i64 v, .int .i64 1, .int .i64 f, .int .i64 l, .int .i64 (l - f + 1)] 23
       replace hb6 := (hb6.ext he7 (by simp)).ext hx (by simp)
       replace hr4 := (hr4.ext he7 (by simp)).ext hx (by simp)
       replace hr5 := (hr5.ext he7 (by simp)).ext hx (by simp)
       clear hE6 he7 hr3 hx)
    | (go_at_call 7
       have htok := hE7
       clear htok
       refine (HF.out _ (cx c7 w7.heap.size 0)).mono ?_
       rintro e w8 ⟨c8, rfl, he8⟩
       have hE8 := hE7.trans he8
       replace hb6 := hb6.ext he8 (by simp)
       replace hb7 := hb7.ext he8 (by simp)
       replace hr4 := hr4.ext he8 (by simp)
       replace hr5 := hr5.ext he8 (by simp)
       obtain ⟨x0, x1, x2, x3, x4, x5⟩ := hb6.six
       obtain ⟨y0, y1, y2, y3, y4, y5⟩ := hb7.six
       obtain ⟨q4, o4, rfl⟩ := rd_addr hr4 (by simp)
       obtain ⟨q5, o5, rfl⟩ := rd_addr hr5 (by simp)
       have j4 := rd_cellAt hr4 3 (x := n) rfl
       have j5 := rd_cellAt hr5 3 (x := n) rfl
       have j6 := rd_cellAt hr5 4 (x := 0) rfl
       clear hr4 hr5 hb6 hb7
       clear he8 hE7))
  go_ret
  exact ⟨rfl, hE8.belowAll⟩
end Go.Proofs.Ytgihcfkcghohnaa.Head
