/- Chapter 18: what its examples fix. -/
import Derived.Test.YtpchlljelbpanaaRead
import Derived.Test.YtpchlljelbpanaaPVariTablesx0
import Derived.Test.YtpchlljelbpanaaPVariTablesx1
import Derived.Test.YtpchlljelbpanaaPVariTablesx2
import Derived.Test.YtpchlljelbpanaaPVariTablesx3
import Derived.Test.YtpchlljelbpanaaPVariTablesx4
namespace Go.Proofs.Ytpchlljelbpanaa.Vari
open Go.RowKit Go.Proofs.Ytpchlljelbpanaa.Sk Go.Proofs.Ytpchlljelbpanaa.Num Go.Proofs.Ytpchlljelbpanaa.Wire Go.Proofs.Ytpchlljelbpanaa.PVariTables
open Go.Proofs.YtpchlljelbpanaaW.PrintWords Go.Proofs.YtpchlljelbpanaaW.PrintLast Go.Proofs.YtpchlljelbpanaaW.PrintMore

theorem Bx.eight {w : World} {c : Col} {κ b : Nat} {a0 a1 a2 a3 a4 a5 a6 a7 : Value} {T : TypeId} (h : Bx w c κ b #[a0, a1, a2, a3, a4, a5, a6, a7] T) :
    (w.cell? ⟨b, 0, none⟩ = some a0 ∧ w.cell? ⟨b, 1, none⟩ = some a1 ∧ w.cell? ⟨b, 2, none⟩ = some a2 ∧ w.cell? ⟨b, 3, none⟩ = some a3 ∧ w.cell? ⟨b, 4, none⟩ = some a4 ∧ w.cell? ⟨b, 5, none⟩ = some a5 ∧ w.cell? ⟨b, 6, none⟩ = some a6 ∧ w.cell? ⟨b, 7, none⟩ = some a7) ∧
    w.frozen? ⟨b, 0, none⟩ = false ∧ w.frozen? ⟨b, 1, none⟩ = false ∧ w.frozen? ⟨b, 2, none⟩ = false ∧ w.frozen? ⟨b, 3, none⟩ = false ∧ w.frozen? ⟨b, 4, none⟩ = false ∧ w.frozen? ⟨b, 5, none⟩ = false ∧ w.frozen? ⟨b, 6, none⟩ = false ∧ w.frozen? ⟨b, 7, none⟩ = false :=
  ⟨⟨h.cell 0, h.cell 1, h.cell 2, h.cell 3, h.cell 4, h.cell 5, h.cell 6, h.cell 7⟩, h.free 0, h.free 1, h.free 2, h.free 3, h.free 4, h.free 5, h.free 6, h.free 7⟩
theorem Bx.twoN (w : World) (c : Col) (κ κ' : Nat) (Z H : Array Value) (T T' : TypeId) (n : Nat) : ∃ c2, Bx (((w.alloc (.cells Z T)).alloc (.cells H T')).drewN n) c2 κ w.heap.size Z T ∧ Bx (((w.alloc (.cells Z T)).alloc (.cells H T')).drewN n) c2 κ' (w.heap.size + 1) H T' ∧ Ext [] w c (((w.alloc (.cells Z T)).alloc (.cells H T')).drewN n) c2 := by
  have h1 := Bx.new w c κ Z T
  have e1 := Ext.alloc [] w c (.cells Z T) κ
  have h2 := Bx.new (w.alloc (.cells Z T)) (cx c w.heap.size κ) κ' H T'
  have e2 := Ext.alloc [] (w.alloc (.cells Z T)) (cx c w.heap.size κ) (.cells H T') κ'
  rw [World.size_alloc] at h2
  have e3 := (Ext.refl [] ((w.alloc (.cells Z T)).alloc (.cells H T')) (cx (cx c w.heap.size κ) (w.alloc (.cells Z T)).heap.size κ')).drewN n
  rw [World.size_alloc] at e2 e3
  exact ⟨_, (h1.ext e2 (by simp)).ext e3 (by simp), h2.ext e3 (by simp), (e1.trans e2).trans e3⟩
theorem size_12_1 : vari_Size.f 20 12 1 = some (11, true) := by kernel_rfl
set_option maxRecDepth 100000 in
set_option maxHeartbeats 3200000 in
theorem ctl_ex (b : List Int) (V : Value) (w : World) (c : Col) (S : List Nat) (hx : Rd u8 w c S V b) (hl : b.length = 11) (x0 x1 x2 x3 x4 : Int)
    (h0 : rU b 0 1 = (x0, .nil, 1)) (h1 : rU b 1 1 = (x1, .nil, 2)) (h2 : rU b 2 4 = (x2, .nil, 6)) (h3 : rU b 6 4 = (x3, .nil, 10)) (h4 : rU b 10 1 = (x4, .nil, 11)) :
    Calls Try.prog 32 #[.int .i64 12, .int .i64 1, V] w fun e w' =>
      e = .returned (.tuple #[.agg #[.int .i64 12, .int .i64 1, .int .i64 x0, .int .i64 x1, .int .i64 x2, .int .i64 x3, .int .i64 0, .int .i64 x4], .bool true]) ∧ Below w.heap.size w w' := by
  obtain ⟨A, cap, rfl, _⟩ := hx.slice
  have hU : ∀ (g : Nat) (a n x : Int) (a' : Int) (w : World) (c : Col), rU b a n = (x, .nil, a') → Rdr w c 12 g b a → Calls Try.prog 42 #[.pointer (some ⟨g, 0, none⟩), .int .i64 n] w fun e w' => ∃ c', e = .returned (.tuple #[.int .i64 x, .nilIface]) ∧ Rdr w' c' 12 g b a' ∧ Ext [12] w c w' c' ∧ Below g w w' := by
    intro g a n x a' w c hr hR
    have := u_calls g b a n w c 12 13 hR
    rw [hr] at this
    refine this.mono ?_
    rintro e w' ⟨v', c', rfl, hk, p1, p2, p3⟩
    obtain rfl : v' = .nilIface := hk
    exact ⟨c', rfl, p1, p2, p3⟩
  have HU := Lib.hid hU
  have H0 := Lib.hid h0
  have H1 := Lib.hid h1
  have H2 := Lib.hid h2
  have H3 := Lib.hid h3
  have H4 := Lib.hid h4
  have HL := Lib.hid hl
  have HS := fun w => vari_Size.calls 20 12 1 11 true w size_12_1
  have HS' := Lib.hid HS
  clear hU h0 h1 h2 h3 h4 HS
  rw [hl] at hx ⊢
  have hT := fun n => Bx.twoN w c 10 11 #[.int .i64 0, .int .i64 0, .int .i64 0, .int .i64 0, .int .i64 0, .int .i64 0, .int .i64 0, .int .i64 0] #[.int .i64 12, .int .i64 1, .int .i64 0, .int .i64 0, .int .i64 0, .int .i64 0, .int .i64 0, .int .i64 0] 44 44 n
  have HT := Lib.hid hT
  clear hT
  have HX := Lib.hid hx
  clear hx
  go_enter Try.func32, Try.ntmps32
  go_wp2_with (first
    | (go_at_call 21
       refine (HS'.out _).mono ?_
       rintro e w1 ⟨rfl, ⟨nd, rfl⟩⟩
       obtain ⟨c1, hz1, hb1, hE1⟩ := HT.out nd
       generalize (((w.alloc (.cells #[.int .i64 0, .int .i64 0, .int .i64 0, .int .i64 0, .int .i64 0, .int .i64 0, .int .i64 0, .int .i64 0] 44)).alloc (.cells #[.int .i64 12, .int .i64 1, .int .i64 0, .int .i64 0, .int .i64 0, .int .i64 0, .int .i64 0, .int .i64 0] 44)).drewN nd) = w1 at *)
    | (go_at_call 40
       refine (newReader_calls b _ w1 c1 S 12 (HX.out.ext hE1 (by simp)) (by rw [HL.out]; omega)).mono ?_
       rintro e w2 ⟨g, c2, rfl, hg, hR, hE2⟩
       have hB2 : Below w.heap.size w w2 := (hE1.trans hE2).belowAll
       have hg : w.heap.size ≤ g := Nat.le_trans hE1.size hg
       have hz2 := hz1.ext hE2 (by simp)
       have hb2 := hb1.ext hE2 (by simp)
       have hR2 := hR
       clear hR hE2 hE1 hz1 hb1)
    | (go_at_call 42
       refine (HU.out _ _ _ _ _ _ c2 H0.out hR2).mono ?_
       rintro e w3 ⟨c3, rfl, hR3, hx3, hB⟩
       have hB3 := hB2.trans (hB.mono hg)
       have hz3 := hz2.ext hx3 (by simp)
       have hb3 := hb2.ext hx3 (by simp)
       clear hR2 hB2 hz2 hb2 hx3 hB
       obtain ⟨⟨k0, k1, k2, k3, k4, k5, k6, k7⟩, f0, f1, f2, f3, f4, f5, f6, f7⟩ := Bx.eight hb3)
    | (go_at_call 42
       obtain ⟨hbs, hes, hls⟩ := hb3.set 2 (.int .i64 x0)
       have hb4 : Bx (w3.setCell ⟨w.heap.size + 1, 2, none⟩ (.int .i64 x0)) c3 11 (w.heap.size + 1) #[.int .i64 12, .int .i64 1, .int .i64 x0, .int .i64 0, .int .i64 0, .int .i64 0, .int .i64 0, .int .i64 0] 44 := hbs
       have hz4 := hz3.ext hes (by simp)
       have hR4 := hR3.ext hes (by simp)
       have hB4 := hB3.trans (hls.mono (Nat.le_succ _))
       clear hbs hes hls hz3 hb3 hR3 hB3 k0 k1 k2 k3 k4 k5 k6 k7 f0 f1 f2 f3 f4 f5 f6 f7
       generalize (w3.setCell ⟨w.heap.size + 1, 2, none⟩ (.int .i64 x0)) = w4 at *
       refine (HU.out _ _ _ _ _ _ c3 H1.out hR4).mono ?_
       rintro e w5 ⟨c5, rfl, hR5, hx5, hB⟩
       have hB5 := hB4.trans (hB.mono hg)
       have hz5 := hz4.ext hx5 (by simp)
       have hb5 := hb4.ext hx5 (by simp)
       clear hR4 hB4 hz4 hb4 hx5 hB
       obtain ⟨⟨k0, k1, k2, k3, k4, k5, k6, k7⟩, f0, f1, f2, f3, f4, f5, f6, f7⟩ := Bx.eight hb5)
    | (go_at_call 42
       obtain ⟨hbs, hes, hls⟩ := hb5.set 3 (.int .i64 x1)
       have hb6 : Bx (w5.setCell ⟨w.heap.size + 1, 3, none⟩ (.int .i64 x1)) c5 11 (w.heap.size + 1) #[.int .i64 12, .int .i64 1, .int .i64 x0, .int .i64 x1, .int .i64 0, .int .i64 0, .int .i64 0, .int .i64 0] 44 := hbs
       have hz6 := hz5.ext hes (by simp)
       have hR6 := hR5.ext hes (by simp)
       have hB6 := hB5.trans (hls.mono (Nat.le_succ _))
       clear hbs hes hls hz5 hb5 hR5 hB5 k0 k1 k2 k3 k4 k5 k6 k7 f0 f1 f2 f3 f4 f5 f6 f7
       generalize (w5.setCell ⟨w.heap.size + 1, 3, none⟩ (.int .i64 x1)) = w6 at *
       refine (HU.out _ _ _ _ _ _ c5 H2.out hR6).mono ?_
       rintro e w7 ⟨c7, rfl, hR7, hx7, hB⟩
       have hB7 := hB6.trans (hB.mono hg)
       have hz7 := hz6.ext hx7 (by simp)
       have hb7 := hb6.ext hx7 (by simp)
       clear hR6 hB6 hz6 hb6 hx7 hB
       obtain ⟨⟨k0, k1, k2, k3, k4, k5, k6, k7⟩, f0, f1, f2, f3, f4, f5, f6, f7⟩ := Bx.eight hb7)
    | (go_at_call 42
       obtain ⟨hbs, hes, hls⟩ := hb7.set 4 (.int .i64 x2)
       have hb8 : Bx (w7.setCell ⟨w.heap.size + 1, 4, none⟩ (.int .i64 x2)) c7 11 (w.heap.size + 1) #[.int .i64 12, .int .i64 1, .int .i64 x0, .int .i64 x1, .int .i64 x2, .int .i64 0, .int .i64 0, .int .i64 0] 44 := hbs
       have hz8 := hz7.ext hes (by simp)
       have hR8 := hR7.ext hes (by simp)
       have hB8 := hB7.trans (hls.mono (Nat.le_succ _))
       clear hbs hes hls hz7 hb7 hR7 hB7 k0 k1 k2 k3 k4 k5 k6 k7 f0 f1 f2 f3 f4 f5 f6 f7
       generalize (w7.setCell ⟨w.heap.size + 1, 4, none⟩ (.int .i64 x2)) = w8 at *
       refine (HU.out _ _ _ _ _ _ c7 H3.out hR8).mono ?_
       rintro e w9 ⟨c9, rfl, hR9, hx9, hB⟩
       have hB9 := hB8.trans (hB.mono hg)
       have hz9 := hz8.ext hx9 (by simp)
       have hb9 := hb8.ext hx9 (by simp)
       clear hR8 hB8 hz8 hb8 hx9 hB
       obtain ⟨⟨k0, k1, k2, k3, k4, k5, k6, k7⟩, f0, f1, f2, f3, f4, f5, f6, f7⟩ := Bx.eight hb9)
    | (go_at_call 42
       obtain ⟨hbs, hes, hls⟩ := hb9.set 5 (.int .i64 x3)
       have hb10 : Bx (w9.setCell ⟨w.heap.size + 1, 5, none⟩ (.int .i64 x3)) c9 11 (w.heap.size + 1) #[.int .i64 12, .int .i64 1, .int .i64 x0, .int .i64 x1, .int .i64 x2, .int .i64 x3, .int .i64 0, .int .i64 0] 44 := hbs
       have hz10 := hz9.ext hes (by simp)
       have hR10 := hR9.ext hes (by simp)
       have hB10 := hB9.trans (hls.mono (Nat.le_succ _))
       clear hbs hes hls hz9 hb9 hR9 hB9 k0 k1 k2 k3 k4 k5 k6 k7 f0 f1 f2 f3 f4 f5 f6 f7
       generalize (w9.setCell ⟨w.heap.size + 1, 5, none⟩ (.int .i64 x3)) = w10 at *
       refine (HU.out _ _ _ _ _ _ c9 H4.out hR10).mono ?_
       rintro e w11 ⟨c11, rfl, hR11, hx11, hB⟩
       have hB11 := hB10.trans (hB.mono hg)
       have hz11 := hz10.ext hx11 (by simp)
       have hb11 := hb10.ext hx11 (by simp)
       clear hR10 hB10 hz10 hb10 hx11 hB
       obtain ⟨⟨k0, k1, k2, k3, k4, k5, k6, k7⟩, f0, f1, f2, f3, f4, f5, f6, f7⟩ := Bx.eight hb11
       obtain ⟨⟨y0, y1, y2, y3, y4, y5, y6, y7⟩, e0, e1, e2, e3, e4, e5, e6, e7⟩ := Bx.eight hz11))
  obtain ⟨hbs, hes, hls⟩ := hb11.set 7 (.int .i64 x4)
  have z0 := hz11.ext hes (by simp)
  have HB := hB11.trans (hls.mono (Nat.le_succ _))
  obtain ⟨z1, _, l1⟩ := z0.set 0 (.int .i64 12)
  replace HB := HB.trans l1
  obtain ⟨z2, _, l2⟩ := z1.set 1 (.int .i64 1)
  replace HB := HB.trans l2
  obtain ⟨z3, _, l3⟩ := z2.set 2 (.int .i64 x0)
  replace HB := HB.trans l3
  obtain ⟨z4, _, l4⟩ := z3.set 3 (.int .i64 x1)
  replace HB := HB.trans l4
  obtain ⟨z5, _, l5⟩ := z4.set 4 (.int .i64 x2)
  replace HB := HB.trans l5
  obtain ⟨z6, _, l6⟩ := z5.set 5 (.int .i64 x3)
  replace HB := HB.trans l6
  obtain ⟨z7, _, l7⟩ := z6.set 6 (.int .i64 0)
  replace HB := HB.trans l7
  obtain ⟨z8, _, l8⟩ := z7.set 7 (.int .i64 x4)
  replace HB := HB.trans l8
  have zz : Bx _ _ 10 w.heap.size #[.int .i64 12, .int .i64 1, .int .i64 x0, .int .i64 x1, .int .i64 x2, .int .i64 x3, .int .i64 0, .int .i64 x4] 44 := z8
  obtain ⟨⟨q0, q1, q2, q3, q4, q5, q6, q7⟩, _⟩ := Bx.eight zz
  exact bodyPost_ret (v := .tuple #[.agg #[.int .i64 12, .int .i64 1, .int .i64 x0, .int .i64 x1, .int .i64 x2, .int .i64 x3, .int .i64 0, .int .i64 x4], .bool true]) (by simp [results, Try.results32, go_sem, q0, q1, q2, q3, q4, q5, q6, q7]) rfl ⟨rfl, HB⟩
end Go.Proofs.Ytpchlljelbpanaa.Vari
