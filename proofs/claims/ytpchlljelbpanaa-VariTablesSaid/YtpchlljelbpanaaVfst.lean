/- Chapter 18's first: what its examples fix holds. -/
import Derived.Test.YtpchlljelbpanaaVari
namespace Go.Proofs.Ytpchlljelbpanaa.Vari
open Go.RowKit Go.Proofs.Ytpchlljelbpanaa.Sk Go.Proofs.Ytpchlljelbpanaa.Num Go.Proofs.Ytpchlljelbpanaa.Wire Go.Proofs.Ytpchlljelbpanaa.PVariTables
open Go.Proofs.YtpchlljelbpanaaW.PrintWords Go.Proofs.YtpchlljelbpanaaW.PrintLast Go.Proofs.YtpchlljelbpanaaW.PrintMore

theorem c_of_rd {w : World} {c : Col} {S : List Nat} {A : Option Addr} {n cap : Nat} {xs : List Int} (h : Rd u8 w c S (.slice A n cap) xs) : (Kd.int .u8).C w A n xs := by
  obtain ⟨A', cap', e, h1, h2, h3⟩ := h.form
  injection e with e1 e2 e3
  subst e1 e2 e3
  refine Kd.C_of_reads (enc := Value.int .u8) (d := (0 : Int)) (h1 := fun _ => rfl) ⟨rfl, by omega, fun hp => ?_⟩
  obtain ⟨b, o, rfl, _, _, hx⟩ := h3 hp
  refine ⟨_, rfl, fun j hj => ?_⟩
  obtain ⟨cs, hk, hc⟩ := hx j xs[j] (List.getElem?_eq_getElem hj)
  have := hc 0 (.int .u8 xs[j]) (by rw [hk.1]; rfl)
  rw [List.getD_eq_getElem?_getD, List.getElem?_eq_getElem hj]
  rw [Go.WideShapes.add_plain]
  simpa [kint] using this
theorem rd_of_c {w : World} {A : Option Addr} {n cap : Nat} {xs : List Int} (h : (Kd.int .u8).C w A n xs) (hl : n ≤ cap) (hr : ∀ x, x ∈ xs → 0 ≤ x ∧ x ≤ 255) : Rd u8 w (fun _ => 0) [0] (.slice A n cap) xs := by
  obtain ⟨rfl, hm, h3⟩ := Kd.reads_of_C (enc := Value.int .u8) (d := (0 : Int)) (h1 := fun _ => rfl) h
  refine ⟨A, cap, rfl, hl, hm, fun hp => ?_⟩
  obtain ⟨ad, rfl, hc⟩ := h3 hp
  obtain ⟨b, o, spot⟩ := ad
  have hspot : spot = none := by simpa [Addr.add] using World.cell?_spot (hc 0 hp)
  subst hspot
  refine ⟨b, o, rfl, World.block_lt_of_cell? w _ (hc 0 hp), by simp, fun j x hj => ?_⟩
  have hjl : j < xs.length := (List.getElem?_eq_some_iff.1 hj).1
  have e := hc j hjl
  rw [List.getD_eq_getElem?_getD, hj] at e
  refine ⟨[.int .u8 x], ⟨rfl, hr x (List.mem_of_getElem? hj)⟩, fun i u hu => ?_⟩
  cases i with
  | zero => simp at hu; subst hu; rw [Go.WideShapes.add_plain] at e; simpa [kint] using e
  | succ i => simp at hu
theorem put_ex1 : vari_Put.f 20 1 2 1 1 0 0 = some ([129], true) := by kernel_rfl
theorem put_ex2 : vari_Put.f 20 30 2 40000 1 0 0 = some ([33, 255, 127], true) := by kernel_rfl
theorem bytes_ex : yardref_Bytes.f [129] [129] = some true := by kernel_rfl
theorem str_ex : strOfNums [33, 255, 127] = ⟨#[33, 255, 127]⟩ := by kernel_rfl
set_option maxRecDepth 100000 in
set_option maxHeartbeats 3200000 in
theorem first_calls (w : World) : Calls Try.prog 12 #[] w fun e w' => e = .returned (.bool true) ∧ Below w.heap.size w w' := by
  have P1 := fun w => vari_Put.calls 20 1 2 1 1 0 0 [129] true w put_ex1
  have P2 := fun w => vari_Put.calls 20 30 2 40000 1 0 0 [33, 255, 127] true w put_ex2
  have P3 : ∀ V w c S, Rd u8 w c S V [3, 1, 100, 0, 0, 0, 0, 0, 0, 0, 0] → Calls Try.prog 32 #[.int .i64 12, .int .i64 1, V] w fun e w' =>
      e = .returned (.tuple #[.agg #[.int .i64 12, .int .i64 1, .int .i64 3, .int .i64 1, .int .i64 100, .int .i64 0, .int .i64 0, .int .i64 0], .bool true]) ∧ Below w.heap.size w w' := fun V w c S hx =>
    ctl_ex _ V w c S hx rfl 3 1 100 0 0 rfl rfl rfl rfl rfl
  have HP1 := Lib.hid P1
  have HP2 := Lib.hid P2
  have HP3 := Lib.hid P3
  clear P1 P2 P3
  have hw := Below.refl w.heap.size w
  go_enter Try.func12, Try.ntmps12
  go_wp2_with (first
    | (go_at_call 13
       have hw' := hw
       refine (HP1.out _).mono ?_
       rintro e w1 ⟨v1, rfl, hr1, hb1⟩
       obtain ⟨A1, cap1, rfl, hl1, hc1⟩ := Kd.R_reads hr1
       have hB1 : Below w.heap.size w w1 := hb1
       clear hr1 hb1 hw' hw)
    | (go_at_call 13
       refine (HP2.out _).mono ?_
       rintro e w2 ⟨v2, rfl, hr2, hb2⟩
       obtain ⟨A2, cap2, rfl, hl2, hc2⟩ := Kd.R_reads hr2
       have hB2 : Below w.heap.size w w2 := hB1.trans (hb2.mono hB1.size)
       replace hc1 := Kd.C_below hc1 hb2
       clear hr2 hb2 hB1)
    | (go_at_call 32
       have ho3 : Own u8 5 (w2.alloc (.cells #[.int .u8 3, .int .u8 1, .int .u8 100, .int .u8 0, .int .u8 0, .int .u8 0, .int .u8 0, .int .u8 0, .int .u8 0, .int .u8 0, .int .u8 0] 5)) (cx (fun _ => 0) w2.heap.size 0) 0 [] w2.heap.size (.slice (some ⟨w2.heap.size, 0, none⟩) 11 11) [3, 1, 100, 0, 0, 0, 0, 0, 0, 0, 0] := Own.ints .u8 5 w2 (fun _ => 0) 0 [] [3, 1, 100, 0, 0, 0, 0, 0, 0, 0, 0] (by decide) (by decide)
       have hb3 := (Below.refl w2.heap.size w2).alloc (Nat.le_refl _) (.cells #[.int .u8 3, .int .u8 1, .int .u8 100, .int .u8 0, .int .u8 0, .int .u8 0, .int .u8 0, .int .u8 0, .int .u8 0, .int .u8 0, .int .u8 0] 5)
       refine (HP3.out _ _ _ [0] (ho3.rd (by simp) (by simp))).mono ?_
       rintro e w3 ⟨rfl, hb4⟩
       have hb5 := hb3.trans (hb4.mono hb3.size)
       have hB3 : Below w.heap.size w w3 := hB2.trans (hb5.mono hB2.size)
       replace hc1 := Kd.C_below hc1 hb5
       replace hc2 := Kd.C_below hc2 hb5
       clear hb3 hb4 hb5 hB2 ho3)
    | (go_at_call 15
       have hb4 := Bx.new w3 (fun _ => 0) 0 #[.int .i64 12, .int .i64 1, .int .i64 3, .int .i64 1, .int .i64 100, .int .i64 0, .int .i64 0, .int .i64 0] 44
       have hx4 := Ext.alloc [] w3 (fun _ => 0) (.cells #[.int .i64 12, .int .i64 1, .int .i64 3, .int .i64 1, .int .i64 100, .int .i64 0, .int .i64 0, .int .i64 0] 44) 0
       have ho5 : Own u8 5 ((w3.alloc (.cells #[.int .i64 12, .int .i64 1, .int .i64 3, .int .i64 1, .int .i64 100, .int .i64 0, .int .i64 0, .int .i64 0] 44)).alloc (.cells #[.int .u8 129] 5)) (cx (cx (fun _ => 0) w3.heap.size 0) (w3.heap.size + 1) 0) 0 [] (w3.heap.size + 1) (.slice (some ⟨w3.heap.size + 1, 0, none⟩) 1 1) [129] := by
         have := Own.ints .u8 5 (w3.alloc (.cells #[.int .i64 12, .int .i64 1, .int .i64 3, .int .i64 1, .int .i64 100, .int .i64 0, .int .i64 0, .int .i64 0] 44)) (cx (fun _ => 0) w3.heap.size 0) 0 [] [129] (by decide) (by decide)
         rw [World.size_alloc] at this
         exact this
       have hx5 := Ext.alloc [] (w3.alloc (.cells #[.int .i64 12, .int .i64 1, .int .i64 3, .int .i64 1, .int .i64 100, .int .i64 0, .int .i64 0, .int .i64 0] 44)) (cx (fun _ => 0) w3.heap.size 0) (.cells #[.int .u8 129] 5) 0
       have hc5 := c_of_rd (ho5.rd (S' := [0]) (by simp) (by simp))
       replace hc1 := Kd.C_below (Kd.C_below hc1 hx4.belowAll) hx5.belowAll
       replace hc2 := Kd.C_below (Kd.C_below hc2 hx4.belowAll) hx5.belowAll
       have hB5 := hB3.trans (((hx4.trans hx5).belowAll).mono hB3.size)
       replace hb4 := hb4.ext hx5 (by simp)
       generalize ((w3.alloc (.cells #[.int .i64 12, .int .i64 1, .int .i64 3, .int .i64 1, .int .i64 100, .int .i64 0, .int .i64 0, .int .i64 0] 44)).alloc (.cells #[.int .u8 129] 5)) = w5 at *
       refine (yardref_Bytes.calls A1 cap1 [129] (some ⟨w3.heap.size + 1, 0, none⟩) 1 [129] true w5 hc1 hl1 hc5 (by decide) bytes_ex).mono ?_
       rintro e w6 ⟨rfl, ⟨nd, rfl⟩⟩
       have hd : Below w5.heap.size w5 (w5.drewN nd) := pw_below_drewN (Below.refl _ _) nd
       have hcv : (convert 25 9 (.slice A2 3 cap2)).run Try.prog (w5.drewN nd) = .ok (.string ⟨#[33, 255, 127]⟩) (w5.drewN nd) := by rw [← str_ex]; exact Kd.C_string (P := Try.prog) (A := A2) (c := cap2) Try.underlying25 Try.underlying5 Try.underlying9 (Kd.C_below hc2 hd)
       have hB6 := hB5.trans (hd.mono hB5.size)
       have hb6 : Bx (w5.drewN nd) _ 0 w3.heap.size #[.int .i64 12, .int .i64 1, .int .i64 3, .int .i64 1, .int .i64 100, .int .i64 0, .int .i64 0, .int .i64 0] 44 := hb4.ext ((Ext.refl [] w5 _).drewN nd) (by simp)
       obtain ⟨⟨k0, k1, k2, k3, k4, k5, k6, k7⟩, _⟩ := Bx.eight hb6
       clear hb4 hx4 ho5 hx5 hc5 hc1 hc2 hB5 hb6 hd hl1 hl2 hB3
       generalize (w5.drewN nd) = w6 at *))
  go_ret
  exact ⟨rfl, hB6⟩
end Go.Proofs.Ytpchlljelbpanaa.Vari
