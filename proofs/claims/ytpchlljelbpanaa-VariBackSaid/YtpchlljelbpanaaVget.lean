/- Chapter 18: Get's contract. -/
import Derived.Test.YtpchlljelbpanaaVfst
namespace Go.Proofs.Ytpchlljelbpanaa.Vari
open Go.RowKit Go.Proofs.Ytpchlljelbpanaa.Sk Go.Proofs.Ytpchlljelbpanaa.Num Go.Proofs.Ytpchlljelbpanaa.Wire Go.Proofs.Ytpchlljelbpanaa.PVariTables
open Go.Proofs.YtpchlljelbpanaaW.PrintWords Go.Proofs.YtpchlljelbpanaaW.PrintLast Go.Proofs.YtpchlljelbpanaaW.PrintMore

theorem Bx.three {w : World} {c : Col} {κ b : Nat} {a0 a1 a2 : Value} {T : TypeId} (h : Bx w c κ b #[a0, a1, a2] T) :
    (w.cell? ⟨b, 0, none⟩ = some a0 ∧ w.cell? ⟨b, 1, none⟩ = some a1 ∧ w.cell? ⟨b, 2, none⟩ = some a2) ∧
    w.frozen? ⟨b, 0, none⟩ = false ∧ w.frozen? ⟨b, 1, none⟩ = false ∧ w.frozen? ⟨b, 2, none⟩ = false :=
  ⟨⟨h.cell 0, h.cell 1, h.cell 2⟩, h.free 0, h.free 1, h.free 2⟩
theorem rd_cell {w : World} {c : Col} {S : List Nat} {q o m cap : Nat} {b : List Int} {x0 : Int} (h : Rd u8 w c S (.slice (some ⟨q, o, none⟩) m cap) b) (h0 : b[0]? = some x0) : w.cell? ⟨q, o, none⟩ = some (.int .u8 x0) := by
  have hlt := (List.getElem?_eq_some_iff.1 h0).1
  obtain ⟨b0, o0, cap0, z0, cs0, eA, _, eg, ⟨ecs, _⟩, ec⟩ := h.at 0 (by omega) (by omega)
  injection eA with eA _ _
  injection eA with eA
  injection eA with eA1 eA2 _
  subst eA1 eA2
  have ez : z0 = x0 := Option.some.inj (eg.symm.trans h0)
  subst ez
  have kc := ec 0 (.int .u8 z0) (by rw [ecs]; rfl)
  simpa using kc
/-- The sign of a number of n bytes. -/
def sI (n x : Int) : Int := if (2 : Int) ^ (8 * n - 1).toNat ≤ x then x - 2 ^ (8 * n).toNat else x
theorem u_plain (b : List Int) (g : Nat) (a n x a' : Int) (w : World) (c : Col) (hr : rU b a n = (x, .nil, a')) (hR : Rdr w c 12 g b a) : Calls Try.prog 42 #[.pointer (some ⟨g, 0, none⟩), .int .i64 n] w fun e w' => ∃ c', e = .returned (.tuple #[.int .i64 x, .nilIface]) ∧ Rdr w' c' 12 g b a' ∧ Ext [12] w c w' c' ∧ Below g w w' := by
  have := u_calls g b a n w c 12 13 hR
  rw [hr] at this
  refine this.mono ?_
  rintro e w' ⟨v', c', rfl, hk, p1, p2, p3⟩
  obtain rfl : v' = .nilIface := hk
  exact ⟨c', rfl, p1, p2, p3⟩
theorem i_2 (b : List Int) (g : Nat) (a x a' : Int) (w : World) (c : Col) (hr : rU b a 2 = (x, .nil, a')) (hR : Rdr w c 12 g b a) (h0 : 0 ≤ x) (h1 : x < 65536) : Calls Try.prog 41 #[.pointer (some ⟨g, 0, none⟩), .int .i64 2] w fun e w' => ∃ c', e = .returned (.tuple #[.int .i64 (sI 2 x), .nilIface]) ∧ Rdr w' c' 12 g b a' ∧ Ext [12] w c w' c' ∧ Below g w w' := by
  have HU := Lib.hid (u_plain b g a 2 x a' w c hr hR)
  have e8 : sI 2 x = if (32768 : Int) ≤ x then x - 65536 else x := rfl
  rw [e8]
  by_cases h : (32768 : Int) ≤ x
  · rw [if_pos h]
    have d : decide ((32768 : Int) ≤ x) = true := decide_eq_true h
    clear hr hR e8
    go_enter Try.func41, Try.ntmps41
    go_wp2_with (go_at_call 42; refine HU.out.mono ?_; rintro e w' ⟨c', rfl, p1, p2, p3⟩)
    go_ret2
    exact ⟨_, rfl, p1, p2, p3⟩
  · rw [if_neg h]
    have d : decide ((32768 : Int) ≤ x) = false := decide_eq_false h
    clear hr hR e8
    go_enter Try.func41, Try.ntmps41
    go_wp2_with (go_at_call 42; refine HU.out.mono ?_; rintro e w' ⟨c', rfl, p1, p2, p3⟩)
    go_ret2
    exact ⟨_, rfl, p1, p2, p3⟩
theorem i_4 (b : List Int) (g : Nat) (a x a' : Int) (w : World) (c : Col) (hr : rU b a 4 = (x, .nil, a')) (hR : Rdr w c 12 g b a) (h0 : 0 ≤ x) (h1 : x < 4294967296) : Calls Try.prog 41 #[.pointer (some ⟨g, 0, none⟩), .int .i64 4] w fun e w' => ∃ c', e = .returned (.tuple #[.int .i64 (sI 4 x), .nilIface]) ∧ Rdr w' c' 12 g b a' ∧ Ext [12] w c w' c' ∧ Below g w w' := by
  have HU := Lib.hid (u_plain b g a 4 x a' w c hr hR)
  have e8 : sI 4 x = if (2147483648 : Int) ≤ x then x - 4294967296 else x := rfl
  rw [e8]
  by_cases h : (2147483648 : Int) ≤ x
  · rw [if_pos h]
    have d : decide ((2147483648 : Int) ≤ x) = true := decide_eq_true h
    clear hr hR e8
    go_enter Try.func41, Try.ntmps41
    go_wp2_with (go_at_call 42; refine HU.out.mono ?_; rintro e w' ⟨c', rfl, p1, p2, p3⟩)
    go_ret2
    exact ⟨_, rfl, p1, p2, p3⟩
  · rw [if_neg h]
    have d : decide ((2147483648 : Int) ≤ x) = false := decide_eq_false h
    clear hr hR e8
    go_enter Try.func41, Try.ntmps41
    go_wp2_with (go_at_call 42; refine HU.out.mono ?_; rintro e w' ⟨c', rfl, p1, p2, p3⟩)
    go_ret2
    exact ⟨_, rfl, p1, p2, p3⟩
set_option maxRecDepth 100000 in
set_option maxHeartbeats 3200000 in
theorem get_a1f (g v : Int) (b : List Int) (q o cap : Nat) (w : World) (c : Col) (S : List Nat) (hx : Rd u8 w c S (.slice (some ⟨q, o, none⟩) 1 cap) b) (hl : b.length = 1) (x0 : Int) (h0 : b[0]? = some x0) (r0 : 0 ≤ x0 ∧ x0 ≤ 255) (e1 : vari_shaped.f 20 g v = some (0, false, true)) (e2 : vari_Size.f 20 g v = some (1, true)) (e3 : vari_Kind.f 20 g = some 1) :
    Calls Try.prog 18 #[.int .i64 g, .int .i64 v, .slice (some ⟨q, o, none⟩) 1 cap] w fun e w' => e = .returned (.tuple #[.agg #[.int .i64 (x0 / 128), .int .i64 (Go.bits .and .i64 x0 7), .int .i64 0], .bool true]) ∧ Below w.heap.size w w' := by
  have HS := Lib.hid fun w => vari_shaped.calls 20 g v _ _ _ w e1
  have HZ := Lib.hid fun w => vari_Size.calls 20 g v _ _ w e2
  have HK := Lib.hid fun w => vari_Kind.calls 20 g _ w e3
  have HX := Lib.hid hx
  have HL := Lib.hid hl
  have H0 := Lib.hid h0
  clear hx hl h0 e1 e2 e3
  go_enter Try.func18, Try.ntmps18
  go_wp2_with (first
    | (go_at_call 34
       refine (HS.out _).mono ?_
       rintro e w1 ⟨rfl, ⟨nd, rfl⟩⟩
       have hz1 := (Bx.new w c 10 #[.int .i64 0, .int .i64 0, .int .i64 0] 23).ext ((Ext.refl [] _ _).drewN nd) (by simp)
       have hE1 := (Ext.alloc [] w c (.cells #[.int .i64 0, .int .i64 0, .int .i64 0] 23) 10).drewN nd
       generalize ((w.alloc (.cells #[.int .i64 0, .int .i64 0, .int .i64 0] 23)).drewN nd) = w1 at *)
    | (go_at_call 21
       refine (HZ.out _).mono ?_
       rintro e w2 ⟨rfl, ⟨nd2, rfl⟩⟩
       have hz2 := hz1.ext ((Ext.refl [] _ _).drewN nd2) (by simp)
       have hE2 := hE1.drewN nd2
       clear hz1 hE1
       generalize (w1.drewN nd2) = w2 at *
       have hx2 := HX.out.ext hE2 (by simp)
       have kc := rd_cell hx2 H0.out
       clear hx2)
    | (go_at_call 14
       refine (HK.out _).mono ?_
       rintro e w3 ⟨rfl, ⟨nd3, rfl⟩⟩
       have hb3 := (Bx.new w2 (cx c w.heap.size 10) 11 #[.int .i64 0, .int .i64 (Go.bits .and .i64 x0 7), .int .i64 0] 23).ext ((Ext.refl [] _ _).drewN nd3) (by simp)
       have hx3 := (Ext.alloc [] w2 (cx c w.heap.size 10) (.cells #[.int .i64 0, .int .i64 (Go.bits .and .i64 x0 7), .int .i64 0] 23) 11).drewN nd3
       have hz3 := hz2.ext hx3 (by simp)
       have hE3 := hE2.trans hx3
       have hp3 := hE2.size
       have hlp := blkLt hz2.1
       clear hz2 hE2 hx3 kc
       generalize ((w2.alloc (.cells #[.int .i64 0, .int .i64 (Go.bits .and .i64 x0 7), .int .i64 0] 23)).drewN nd3) = w3 at *
       generalize hc3 : cx (cx c w.heap.size 10) w2.heap.size 11 = c3 at *
       clear hc3
       generalize w2.heap.size = p at *
       have hB3 := hE3.belowAll
       obtain ⟨⟨k0, k1, k2⟩, f0, f1, f2⟩ := Bx.three hb3
       obtain ⟨⟨z0, z1, z2⟩, s0, s1, s2⟩ := Bx.three hz3))
  obtain ⟨hbs, hes, hls⟩ := hb3.set 0 (.int .i64 (x0 / 128))
  have zz0 := hz3.ext hes (by simp)
  have HB := hE3.belowAll.trans (hls.mono hp3)
  obtain ⟨zz1, _, l1⟩ := zz0.set 0 (.int .i64 (x0 / 128))
  obtain ⟨zz2, _, l2⟩ := zz1.set 1 (.int .i64 (Go.bits .and .i64 x0 7))
  obtain ⟨zz3, _, l3⟩ := zz2.set 2 (.int .i64 0)
  have zz : Bx _ _ 10 w.heap.size #[.int .i64 (x0 / 128), .int .i64 (Go.bits .and .i64 x0 7), .int .i64 0] 23 := zz3
  obtain ⟨⟨q0, q1, q2⟩, _⟩ := Bx.three zz
  exact bodyPost_ret (v := .tuple #[.agg #[.int .i64 (x0 / 128), .int .i64 (Go.bits .and .i64 x0 7), .int .i64 0], .bool true]) (by simp [results, Try.results18, go_sem, q0, q1, q2]) rfl ⟨rfl, ((HB.trans l1).trans l2).trans l3⟩
set_option maxRecDepth 100000 in
set_option maxHeartbeats 3200000 in
theorem get_a1t (g v : Int) (b : List Int) (q o cap : Nat) (w : World) (c : Col) (S : List Nat) (hx : Rd u8 w c S (.slice (some ⟨q, o, none⟩) 7 cap) b) (hl : b.length = 7) (x0 : Int) (h0 : b[0]? = some x0) (r0 : 0 ≤ x0 ∧ x0 ≤ 255) (e1 : vari_shaped.f 20 g v = some (0, true, true)) (e2 : vari_Size.f 20 g v = some (7, true)) (e3 : vari_Kind.f 20 g = some 1) (x2 : Int) (h2 : rU (b.drop 1) 0 6 = (x2, .nil, 6)) :
    Calls Try.prog 18 #[.int .i64 g, .int .i64 v, .slice (some ⟨q, o, none⟩) 7 cap] w fun e w' => e = .returned (.tuple #[.agg #[.int .i64 (x0 / 128), .int .i64 (Go.bits .and .i64 x0 7), .int .i64 x2], .bool true]) ∧ Below w.heap.size w w' := by
  have HS := Lib.hid fun w => vari_shaped.calls 20 g v _ _ _ w e1
  have HZ := Lib.hid fun w => vari_Size.calls 20 g v _ _ w e2
  have HK := Lib.hid fun w => vari_Kind.calls 20 g _ w e3
  have HX := Lib.hid hx
  have HL := Lib.hid hl
  have H0 := Lib.hid h0
  obtain ⟨A2, cut2, rd2⟩ := cut_l (P := Try.prog) u8 25 5 _ _ Try.underlying25 info_u8 (some ⟨q, o, none⟩) 7 cap .i64 1 6 (by omega) (by omega)
  have H2 := Lib.hid h2
  have RD2 := Lib.hid rd2
  clear h2 rd2
  clear hx hl h0 e1 e2 e3
  go_enter Try.func18, Try.ntmps18
  go_wp2_with (first
    | (go_at_call 34
       refine (HS.out _).mono ?_
       rintro e w1 ⟨rfl, ⟨nd, rfl⟩⟩
       have hz1 := (Bx.new w c 10 #[.int .i64 0, .int .i64 0, .int .i64 0] 23).ext ((Ext.refl [] _ _).drewN nd) (by simp)
       have hE1 := (Ext.alloc [] w c (.cells #[.int .i64 0, .int .i64 0, .int .i64 0] 23) 10).drewN nd
       generalize ((w.alloc (.cells #[.int .i64 0, .int .i64 0, .int .i64 0] 23)).drewN nd) = w1 at *)
    | (go_at_call 21
       refine (HZ.out _).mono ?_
       rintro e w2 ⟨rfl, ⟨nd2, rfl⟩⟩
       have hz2 := hz1.ext ((Ext.refl [] _ _).drewN nd2) (by simp)
       have hE2 := hE1.drewN nd2
       clear hz1 hE1
       generalize (w1.drewN nd2) = w2 at *
       have hx2 := HX.out.ext hE2 (by simp)
       have kc := rd_cell hx2 H0.out
       clear hx2)
    | (go_at_call 14
       refine (HK.out _).mono ?_
       rintro e w3 ⟨rfl, ⟨nd3, rfl⟩⟩
       have hb3 := (Bx.new w2 (cx c w.heap.size 10) 11 #[.int .i64 0, .int .i64 (Go.bits .and .i64 x0 7), .int .i64 0] 23).ext ((Ext.refl [] _ _).drewN nd3) (by simp)
       have hx3 := (Ext.alloc [] w2 (cx c w.heap.size 10) (.cells #[.int .i64 0, .int .i64 (Go.bits .and .i64 x0 7), .int .i64 0] 23) 11).drewN nd3
       have hz3 := hz2.ext hx3 (by simp)
       have hE3 := hE2.trans hx3
       have hp3 := hE2.size
       have hlp := blkLt hz2.1
       clear hz2 hE2 hx3 kc
       generalize ((w2.alloc (.cells #[.int .i64 0, .int .i64 (Go.bits .and .i64 x0 7), .int .i64 0] 23)).drewN nd3) = w3 at *
       generalize hc3 : cx (cx c w.heap.size 10) w2.heap.size 11 = c3 at *
       clear hc3
       generalize w2.heap.size = p at *
       have hB3 := hE3.belowAll
       obtain ⟨⟨k0, k1, k2⟩, f0, f1, f2⟩ := Bx.three hb3
       obtain ⟨⟨z0, z1, z2⟩, s0, s1, s2⟩ := Bx.three hz3)
    | (go_at_call 40
       obtain ⟨hbs, hes, hls⟩ := hb3.set 0 (.int .i64 (x0 / 128))
       have hb4 : Bx (w3.setCell ⟨p, 0, none⟩ (.int .i64 (x0 / 128))) c3 11 p #[.int .i64 (x0 / 128), .int .i64 (Go.bits .and .i64 x0 7), .int .i64 0] 23 := hbs
       have hz4 := hz3.ext hes (by simp)
       have hE4 : Ext [] w c (w3.setCell ⟨p, 0, none⟩ (.int .i64 (x0 / 128))) c3 := hE3.later (Nat.le_refl _) (hls.mono hp3) (fun _ _ => rfl)
       clear hbs hes hls hb3 hz3 hE3 hB3 k0 k1 k2 f0 f1 f2 z0 z1 z2 s0 s1 s2
       generalize (w3.setCell ⟨p, 0, none⟩ (.int .i64 (x0 / 128))) = w4 at *
       refine (newReader_calls (b.drop 1) _ w4 c3 S 12 (RD2.out w4 c3 S b (HX.out.ext hE4 (by simp))) (by rw [List.length_drop, HL.out]; omega)).mono ?_
       rintro e w7 ⟨g7, c7, rfl, hg7, hR7, hx7⟩
       have hb7 := hb4.ext hx7 (by simp)
       have hz7 := hz4.ext hx7 (by simp)
       have hE7 := hE4.trans hx7
       have hg7 : w.heap.size ≤ g7 := Nat.le_trans hE4.size hg7
       clear hb4 hz4 hE4 hx7)
    | (go_at_call 42
       refine (u_plain (b.drop 1) g7 0 6 x2 6 w7 c7 H2.out hR7).mono ?_
       rintro e w8 ⟨c8, rfl, hR8, hx8, hB8⟩
       have hb8 := hb7.ext hx8 (by simp)
       have hz8 := hz7.ext hx8 (by simp)
       have hE8 : Ext [] w c w8 c8 := hE7.later (Nat.le_refl _) (hB8.mono hg7) (fun _ hk => hx8.col _ hk)
       clear hb7 hz7 hE7 hx8
       obtain ⟨⟨k0, k1, k2⟩, f0, f1, f2⟩ := Bx.three hb8
       obtain ⟨⟨z0, z1, z2⟩, s0, s1, s2⟩ := Bx.three hz8))
  obtain ⟨hbs, hes, hls⟩ := hb8.set 2 (.int .i64 x2)
  have zz0 := hz8.ext hes (by simp)
  have HB := hE8.belowAll.trans (hls.mono hp3)
  obtain ⟨zz1, _, l1⟩ := zz0.set 0 (.int .i64 (x0 / 128))
  obtain ⟨zz2, _, l2⟩ := zz1.set 1 (.int .i64 (Go.bits .and .i64 x0 7))
  obtain ⟨zz3, _, l3⟩ := zz2.set 2 (.int .i64 x2)
  have zz : Bx _ _ 10 w.heap.size #[.int .i64 (x0 / 128), .int .i64 (Go.bits .and .i64 x0 7), .int .i64 x2] 23 := zz3
  obtain ⟨⟨q0, q1, q2⟩, _⟩ := Bx.three zz
  exact bodyPost_ret (v := .tuple #[.agg #[.int .i64 (x0 / 128), .int .i64 (Go.bits .and .i64 x0 7), .int .i64 x2], .bool true]) (by simp [results, Try.results18, go_sem, q0, q1, q2]) rfl ⟨rfl, ((HB.trans l1).trans l2).trans l3⟩
set_option maxRecDepth 100000 in
set_option maxHeartbeats 3200000 in
theorem get_a6f (g v : Int) (b : List Int) (q o cap : Nat) (w : World) (c : Col) (S : List Nat) (hx : Rd u8 w c S (.slice (some ⟨q, o, none⟩) 1 cap) b) (hl : b.length = 1) (x0 : Int) (h0 : b[0]? = some x0) (r0 : 0 ≤ x0 ∧ x0 ≤ 255) (e1 : vari_shaped.f 20 g v = some (0, false, true)) (e2 : vari_Size.f 20 g v = some (1, true)) (e3 : vari_Kind.f 20 g = some 6) :
    Calls Try.prog 18 #[.int .i64 g, .int .i64 v, .slice (some ⟨q, o, none⟩) 1 cap] w fun e w' => e = .returned (.tuple #[.agg #[.int .i64 (x0 / 128), .int .i64 (Go.bits .and .i64 x0 7), .int .i64 0], .bool true]) ∧ Below w.heap.size w w' := by
  have HS := Lib.hid fun w => vari_shaped.calls 20 g v _ _ _ w e1
  have HZ := Lib.hid fun w => vari_Size.calls 20 g v _ _ w e2
  have HK := Lib.hid fun w => vari_Kind.calls 20 g _ w e3
  have HX := Lib.hid hx
  have HL := Lib.hid hl
  have H0 := Lib.hid h0
  clear hx hl h0 e1 e2 e3
  go_enter Try.func18, Try.ntmps18
  go_wp2_with (first
    | (go_at_call 34
       refine (HS.out _).mono ?_
       rintro e w1 ⟨rfl, ⟨nd, rfl⟩⟩
       have hz1 := (Bx.new w c 10 #[.int .i64 0, .int .i64 0, .int .i64 0] 23).ext ((Ext.refl [] _ _).drewN nd) (by simp)
       have hE1 := (Ext.alloc [] w c (.cells #[.int .i64 0, .int .i64 0, .int .i64 0] 23) 10).drewN nd
       generalize ((w.alloc (.cells #[.int .i64 0, .int .i64 0, .int .i64 0] 23)).drewN nd) = w1 at *)
    | (go_at_call 21
       refine (HZ.out _).mono ?_
       rintro e w2 ⟨rfl, ⟨nd2, rfl⟩⟩
       have hz2 := hz1.ext ((Ext.refl [] _ _).drewN nd2) (by simp)
       have hE2 := hE1.drewN nd2
       clear hz1 hE1
       generalize (w1.drewN nd2) = w2 at *
       have hx2 := HX.out.ext hE2 (by simp)
       have kc := rd_cell hx2 H0.out
       clear hx2)
    | (go_at_call 14
       refine (HK.out _).mono ?_
       rintro e w3 ⟨rfl, ⟨nd3, rfl⟩⟩
       have hb3 := (Bx.new w2 (cx c w.heap.size 10) 11 #[.int .i64 0, .int .i64 (Go.bits .and .i64 x0 7), .int .i64 0] 23).ext ((Ext.refl [] _ _).drewN nd3) (by simp)
       have hx3 := (Ext.alloc [] w2 (cx c w.heap.size 10) (.cells #[.int .i64 0, .int .i64 (Go.bits .and .i64 x0 7), .int .i64 0] 23) 11).drewN nd3
       have hz3 := hz2.ext hx3 (by simp)
       have hE3 := hE2.trans hx3
       have hp3 := hE2.size
       have hlp := blkLt hz2.1
       clear hz2 hE2 hx3 kc
       generalize ((w2.alloc (.cells #[.int .i64 0, .int .i64 (Go.bits .and .i64 x0 7), .int .i64 0] 23)).drewN nd3) = w3 at *
       generalize hc3 : cx (cx c w.heap.size 10) w2.heap.size 11 = c3 at *
       clear hc3
       generalize w2.heap.size = p at *
       have hB3 := hE3.belowAll
       obtain ⟨⟨k0, k1, k2⟩, f0, f1, f2⟩ := Bx.three hb3
       obtain ⟨⟨z0, z1, z2⟩, s0, s1, s2⟩ := Bx.three hz3))
  obtain ⟨hbs, hes, hls⟩ := hb3.set 0 (.int .i64 (x0 / 128))
  have zz0 := hz3.ext hes (by simp)
  have HB := hE3.belowAll.trans (hls.mono hp3)
  obtain ⟨zz1, _, l1⟩ := zz0.set 0 (.int .i64 (x0 / 128))
  obtain ⟨zz2, _, l2⟩ := zz1.set 1 (.int .i64 (Go.bits .and .i64 x0 7))
  obtain ⟨zz3, _, l3⟩ := zz2.set 2 (.int .i64 0)
  have zz : Bx _ _ 10 w.heap.size #[.int .i64 (x0 / 128), .int .i64 (Go.bits .and .i64 x0 7), .int .i64 0] 23 := zz3
  obtain ⟨⟨q0, q1, q2⟩, _⟩ := Bx.three zz
  exact bodyPost_ret (v := .tuple #[.agg #[.int .i64 (x0 / 128), .int .i64 (Go.bits .and .i64 x0 7), .int .i64 0], .bool true]) (by simp [results, Try.results18, go_sem, q0, q1, q2]) rfl ⟨rfl, ((HB.trans l1).trans l2).trans l3⟩
set_option maxRecDepth 100000 in
set_option maxHeartbeats 3200000 in
theorem get_b2f (g v : Int) (b : List Int) (q o cap : Nat) (w : World) (c : Col) (S : List Nat) (hx : Rd u8 w c S (.slice (some ⟨q, o, none⟩) 1 cap) b) (hl : b.length = 1) (x0 : Int) (h0 : b[0]? = some x0) (r0 : 0 ≤ x0 ∧ x0 ≤ 255) (e1 : vari_shaped.f 20 g v = some (0, false, true)) (e2 : vari_Size.f 20 g v = some (1, true)) (e3 : vari_Kind.f 20 g = some 2) :
    Calls Try.prog 18 #[.int .i64 g, .int .i64 v, .slice (some ⟨q, o, none⟩) 1 cap] w fun e w' => e = .returned (.tuple #[.agg #[.int .i64 (x0 / 64), .int .i64 (Go.bits .and .i64 x0 7), .int .i64 0], .bool true]) ∧ Below w.heap.size w w' := by
  have HS := Lib.hid fun w => vari_shaped.calls 20 g v _ _ _ w e1
  have HZ := Lib.hid fun w => vari_Size.calls 20 g v _ _ w e2
  have HK := Lib.hid fun w => vari_Kind.calls 20 g _ w e3
  have HX := Lib.hid hx
  have HL := Lib.hid hl
  have H0 := Lib.hid h0
  clear hx hl h0 e1 e2 e3
  go_enter Try.func18, Try.ntmps18
  go_wp2_with (first
    | (go_at_call 34
       refine (HS.out _).mono ?_
       rintro e w1 ⟨rfl, ⟨nd, rfl⟩⟩
       have hz1 := (Bx.new w c 10 #[.int .i64 0, .int .i64 0, .int .i64 0] 23).ext ((Ext.refl [] _ _).drewN nd) (by simp)
       have hE1 := (Ext.alloc [] w c (.cells #[.int .i64 0, .int .i64 0, .int .i64 0] 23) 10).drewN nd
       generalize ((w.alloc (.cells #[.int .i64 0, .int .i64 0, .int .i64 0] 23)).drewN nd) = w1 at *)
    | (go_at_call 21
       refine (HZ.out _).mono ?_
       rintro e w2 ⟨rfl, ⟨nd2, rfl⟩⟩
       have hz2 := hz1.ext ((Ext.refl [] _ _).drewN nd2) (by simp)
       have hE2 := hE1.drewN nd2
       clear hz1 hE1
       generalize (w1.drewN nd2) = w2 at *
       have hx2 := HX.out.ext hE2 (by simp)
       have kc := rd_cell hx2 H0.out
       clear hx2)
    | (go_at_call 14
       refine (HK.out _).mono ?_
       rintro e w3 ⟨rfl, ⟨nd3, rfl⟩⟩
       have hb3 := (Bx.new w2 (cx c w.heap.size 10) 11 #[.int .i64 0, .int .i64 (Go.bits .and .i64 x0 7), .int .i64 0] 23).ext ((Ext.refl [] _ _).drewN nd3) (by simp)
       have hx3 := (Ext.alloc [] w2 (cx c w.heap.size 10) (.cells #[.int .i64 0, .int .i64 (Go.bits .and .i64 x0 7), .int .i64 0] 23) 11).drewN nd3
       have hz3 := hz2.ext hx3 (by simp)
       have hE3 := hE2.trans hx3
       have hp3 := hE2.size
       have hlp := blkLt hz2.1
       clear hz2 hE2 hx3 kc
       generalize ((w2.alloc (.cells #[.int .i64 0, .int .i64 (Go.bits .and .i64 x0 7), .int .i64 0] 23)).drewN nd3) = w3 at *
       generalize hc3 : cx (cx c w.heap.size 10) w2.heap.size 11 = c3 at *
       clear hc3
       generalize w2.heap.size = p at *
       have hB3 := hE3.belowAll
       obtain ⟨⟨k0, k1, k2⟩, f0, f1, f2⟩ := Bx.three hb3
       obtain ⟨⟨z0, z1, z2⟩, s0, s1, s2⟩ := Bx.three hz3))
  obtain ⟨hbs, hes, hls⟩ := hb3.set 0 (.int .i64 (x0 / 64))
  have zz0 := hz3.ext hes (by simp)
  have HB := hE3.belowAll.trans (hls.mono hp3)
  obtain ⟨zz1, _, l1⟩ := zz0.set 0 (.int .i64 (x0 / 64))
  obtain ⟨zz2, _, l2⟩ := zz1.set 1 (.int .i64 (Go.bits .and .i64 x0 7))
  obtain ⟨zz3, _, l3⟩ := zz2.set 2 (.int .i64 0)
  have zz : Bx _ _ 10 w.heap.size #[.int .i64 (x0 / 64), .int .i64 (Go.bits .and .i64 x0 7), .int .i64 0] 23 := zz3
  obtain ⟨⟨q0, q1, q2⟩, _⟩ := Bx.three zz
  exact bodyPost_ret (v := .tuple #[.agg #[.int .i64 (x0 / 64), .int .i64 (Go.bits .and .i64 x0 7), .int .i64 0], .bool true]) (by simp [results, Try.results18, go_sem, q0, q1, q2]) rfl ⟨rfl, ((HB.trans l1).trans l2).trans l3⟩
set_option maxRecDepth 100000 in
set_option maxHeartbeats 3200000 in
theorem get_b2t (g v : Int) (b : List Int) (q o cap : Nat) (w : World) (c : Col) (S : List Nat) (hx : Rd u8 w c S (.slice (some ⟨q, o, none⟩) 7 cap) b) (hl : b.length = 7) (x0 : Int) (h0 : b[0]? = some x0) (r0 : 0 ≤ x0 ∧ x0 ≤ 255) (e1 : vari_shaped.f 20 g v = some (0, true, true)) (e2 : vari_Size.f 20 g v = some (7, true)) (e3 : vari_Kind.f 20 g = some 2) (x2 : Int) (h2 : rU (b.drop 1) 0 6 = (x2, .nil, 6)) :
    Calls Try.prog 18 #[.int .i64 g, .int .i64 v, .slice (some ⟨q, o, none⟩) 7 cap] w fun e w' => e = .returned (.tuple #[.agg #[.int .i64 (x0 / 64), .int .i64 (Go.bits .and .i64 x0 7), .int .i64 x2], .bool true]) ∧ Below w.heap.size w w' := by
  have HS := Lib.hid fun w => vari_shaped.calls 20 g v _ _ _ w e1
  have HZ := Lib.hid fun w => vari_Size.calls 20 g v _ _ w e2
  have HK := Lib.hid fun w => vari_Kind.calls 20 g _ w e3
  have HX := Lib.hid hx
  have HL := Lib.hid hl
  have H0 := Lib.hid h0
  obtain ⟨A2, cut2, rd2⟩ := cut_l (P := Try.prog) u8 25 5 _ _ Try.underlying25 info_u8 (some ⟨q, o, none⟩) 7 cap .i64 1 6 (by omega) (by omega)
  have H2 := Lib.hid h2
  have RD2 := Lib.hid rd2
  clear h2 rd2
  clear hx hl h0 e1 e2 e3
  go_enter Try.func18, Try.ntmps18
  go_wp2_with (first
    | (go_at_call 34
       refine (HS.out _).mono ?_
       rintro e w1 ⟨rfl, ⟨nd, rfl⟩⟩
       have hz1 := (Bx.new w c 10 #[.int .i64 0, .int .i64 0, .int .i64 0] 23).ext ((Ext.refl [] _ _).drewN nd) (by simp)
       have hE1 := (Ext.alloc [] w c (.cells #[.int .i64 0, .int .i64 0, .int .i64 0] 23) 10).drewN nd
       generalize ((w.alloc (.cells #[.int .i64 0, .int .i64 0, .int .i64 0] 23)).drewN nd) = w1 at *)
    | (go_at_call 21
       refine (HZ.out _).mono ?_
       rintro e w2 ⟨rfl, ⟨nd2, rfl⟩⟩
       have hz2 := hz1.ext ((Ext.refl [] _ _).drewN nd2) (by simp)
       have hE2 := hE1.drewN nd2
       clear hz1 hE1
       generalize (w1.drewN nd2) = w2 at *
       have hx2 := HX.out.ext hE2 (by simp)
       have kc := rd_cell hx2 H0.out
       clear hx2)
    | (go_at_call 14
       refine (HK.out _).mono ?_
       rintro e w3 ⟨rfl, ⟨nd3, rfl⟩⟩
       have hb3 := (Bx.new w2 (cx c w.heap.size 10) 11 #[.int .i64 0, .int .i64 (Go.bits .and .i64 x0 7), .int .i64 0] 23).ext ((Ext.refl [] _ _).drewN nd3) (by simp)
       have hx3 := (Ext.alloc [] w2 (cx c w.heap.size 10) (.cells #[.int .i64 0, .int .i64 (Go.bits .and .i64 x0 7), .int .i64 0] 23) 11).drewN nd3
       have hz3 := hz2.ext hx3 (by simp)
       have hE3 := hE2.trans hx3
       have hp3 := hE2.size
       have hlp := blkLt hz2.1
       clear hz2 hE2 hx3 kc
       generalize ((w2.alloc (.cells #[.int .i64 0, .int .i64 (Go.bits .and .i64 x0 7), .int .i64 0] 23)).drewN nd3) = w3 at *
       generalize hc3 : cx (cx c w.heap.size 10) w2.heap.size 11 = c3 at *
       clear hc3
       generalize w2.heap.size = p at *
       have hB3 := hE3.belowAll
       obtain ⟨⟨k0, k1, k2⟩, f0, f1, f2⟩ := Bx.three hb3
       obtain ⟨⟨z0, z1, z2⟩, s0, s1, s2⟩ := Bx.three hz3)
    | (go_at_call 40
       obtain ⟨hbs, hes, hls⟩ := hb3.set 0 (.int .i64 (x0 / 64))
       have hb4 : Bx (w3.setCell ⟨p, 0, none⟩ (.int .i64 (x0 / 64))) c3 11 p #[.int .i64 (x0 / 64), .int .i64 (Go.bits .and .i64 x0 7), .int .i64 0] 23 := hbs
       have hz4 := hz3.ext hes (by simp)
       have hE4 : Ext [] w c (w3.setCell ⟨p, 0, none⟩ (.int .i64 (x0 / 64))) c3 := hE3.later (Nat.le_refl _) (hls.mono hp3) (fun _ _ => rfl)
       clear hbs hes hls hb3 hz3 hE3 hB3 k0 k1 k2 f0 f1 f2 z0 z1 z2 s0 s1 s2
       generalize (w3.setCell ⟨p, 0, none⟩ (.int .i64 (x0 / 64))) = w4 at *
       refine (newReader_calls (b.drop 1) _ w4 c3 S 12 (RD2.out w4 c3 S b (HX.out.ext hE4 (by simp))) (by rw [List.length_drop, HL.out]; omega)).mono ?_
       rintro e w7 ⟨g7, c7, rfl, hg7, hR7, hx7⟩
       have hb7 := hb4.ext hx7 (by simp)
       have hz7 := hz4.ext hx7 (by simp)
       have hE7 := hE4.trans hx7
       have hg7 : w.heap.size ≤ g7 := Nat.le_trans hE4.size hg7
       clear hb4 hz4 hE4 hx7)
    | (go_at_call 42
       refine (u_plain (b.drop 1) g7 0 6 x2 6 w7 c7 H2.out hR7).mono ?_
       rintro e w8 ⟨c8, rfl, hR8, hx8, hB8⟩
       have hb8 := hb7.ext hx8 (by simp)
       have hz8 := hz7.ext hx8 (by simp)
       have hE8 : Ext [] w c w8 c8 := hE7.later (Nat.le_refl _) (hB8.mono hg7) (fun _ hk => hx8.col _ hk)
       clear hb7 hz7 hE7 hx8
       obtain ⟨⟨k0, k1, k2⟩, f0, f1, f2⟩ := Bx.three hb8
       obtain ⟨⟨z0, z1, z2⟩, s0, s1, s2⟩ := Bx.three hz8))
  obtain ⟨hbs, hes, hls⟩ := hb8.set 2 (.int .i64 x2)
  have zz0 := hz8.ext hes (by simp)
  have HB := hE8.belowAll.trans (hls.mono hp3)
  obtain ⟨zz1, _, l1⟩ := zz0.set 0 (.int .i64 (x0 / 64))
  obtain ⟨zz2, _, l2⟩ := zz1.set 1 (.int .i64 (Go.bits .and .i64 x0 7))
  obtain ⟨zz3, _, l3⟩ := zz2.set 2 (.int .i64 x2)
  have zz : Bx _ _ 10 w.heap.size #[.int .i64 (x0 / 64), .int .i64 (Go.bits .and .i64 x0 7), .int .i64 x2] 23 := zz3
  obtain ⟨⟨q0, q1, q2⟩, _⟩ := Bx.three zz
  exact bodyPost_ret (v := .tuple #[.agg #[.int .i64 (x0 / 64), .int .i64 (Go.bits .and .i64 x0 7), .int .i64 x2], .bool true]) (by simp [results, Try.results18, go_sem, q0, q1, q2]) rfl ⟨rfl, ((HB.trans l1).trans l2).trans l3⟩
set_option maxRecDepth 100000 in
set_option maxHeartbeats 3200000 in
theorem get_c4f (g v : Int) (b : List Int) (q o cap : Nat) (w : World) (c : Col) (S : List Nat) (hx : Rd u8 w c S (.slice (some ⟨q, o, none⟩) 5 cap) b) (hl : b.length = 5) (x0 : Int) (h0 : b[0]? = some x0) (r0 : 0 ≤ x0 ∧ x0 ≤ 255) (e1 : vari_shaped.f 20 g v = some (4, false, true)) (e2 : vari_Size.f 20 g v = some (5, true)) (kd : Int) (e3 : vari_Kind.f 20 g = some kd) (d1 : (kd == 1) = false) (d6 : (kd == 6) = false) (d2 : (kd == 2) = false) (x1 : Int) (h1 : rU (b.drop 1) 0 4 = (x1, .nil, 4)) (r1 : 0 ≤ x1 ∧ x1 < 4294967296) :
    Calls Try.prog 18 #[.int .i64 g, .int .i64 v, .slice (some ⟨q, o, none⟩) 5 cap] w fun e w' => e = .returned (.tuple #[.agg #[.int .i64 (sI 4 x1), .int .i64 (Go.bits .and .i64 x0 7), .int .i64 0], .bool true]) ∧ Below w.heap.size w w' := by
  have HS := Lib.hid fun w => vari_shaped.calls 20 g v _ _ _ w e1
  have HZ := Lib.hid fun w => vari_Size.calls 20 g v _ _ w e2
  have HK := Lib.hid fun w => vari_Kind.calls 20 g _ w e3
  have HX := Lib.hid hx
  have HL := Lib.hid hl
  have H0 := Lib.hid h0
  obtain ⟨A1, cut1, rd1⟩ := cut_l (P := Try.prog) u8 25 5 _ _ Try.underlying25 info_u8 (some ⟨q, o, none⟩) 5 cap .i64 1 4 (by omega) (by omega)
  have H1 := Lib.hid h1
  have RD1 := Lib.hid rd1
  clear h1 rd1
  clear hx hl h0 e1 e2 e3
  go_enter Try.func18, Try.ntmps18
  go_wp2_with (first
    | (go_at_call 34
       refine (HS.out _).mono ?_
       rintro e w1 ⟨rfl, ⟨nd, rfl⟩⟩
       have hz1 := (Bx.new w c 10 #[.int .i64 0, .int .i64 0, .int .i64 0] 23).ext ((Ext.refl [] _ _).drewN nd) (by simp)
       have hE1 := (Ext.alloc [] w c (.cells #[.int .i64 0, .int .i64 0, .int .i64 0] 23) 10).drewN nd
       generalize ((w.alloc (.cells #[.int .i64 0, .int .i64 0, .int .i64 0] 23)).drewN nd) = w1 at *)
    | (go_at_call 21
       refine (HZ.out _).mono ?_
       rintro e w2 ⟨rfl, ⟨nd2, rfl⟩⟩
       have hz2 := hz1.ext ((Ext.refl [] _ _).drewN nd2) (by simp)
       have hE2 := hE1.drewN nd2
       clear hz1 hE1
       generalize (w1.drewN nd2) = w2 at *
       have hx2 := HX.out.ext hE2 (by simp)
       have kc := rd_cell hx2 H0.out
       clear hx2)
    | (go_at_call 14
       refine (HK.out _).mono ?_
       rintro e w3 ⟨rfl, ⟨nd3, rfl⟩⟩
       have hb3 := (Bx.new w2 (cx c w.heap.size 10) 11 #[.int .i64 0, .int .i64 (Go.bits .and .i64 x0 7), .int .i64 0] 23).ext ((Ext.refl [] _ _).drewN nd3) (by simp)
       have hx3 := (Ext.alloc [] w2 (cx c w.heap.size 10) (.cells #[.int .i64 0, .int .i64 (Go.bits .and .i64 x0 7), .int .i64 0] 23) 11).drewN nd3
       have hz3 := hz2.ext hx3 (by simp)
       have hE3 := hE2.trans hx3
       have hp3 := hE2.size
       have hlp := blkLt hz2.1
       clear hz2 hE2 hx3 kc
       generalize ((w2.alloc (.cells #[.int .i64 0, .int .i64 (Go.bits .and .i64 x0 7), .int .i64 0] 23)).drewN nd3) = w3 at *
       generalize hc3 : cx (cx c w.heap.size 10) w2.heap.size 11 = c3 at *
       clear hc3
       generalize w2.heap.size = p at *
       have hB3 := hE3.belowAll
       obtain ⟨⟨k0, k1, k2⟩, f0, f1, f2⟩ := Bx.three hb3
       obtain ⟨⟨z0, z1, z2⟩, s0, s1, s2⟩ := Bx.three hz3)
    | (go_at_call 40
       refine (newReader_calls (b.drop 1) _ w3 c3 S 12 (RD1.out w3 c3 S b (HX.out.ext hE3 (by simp))) (by rw [List.length_drop, HL.out]; omega)).mono ?_
       rintro e w4 ⟨g4, c4, rfl, hg4, hR4, hx4⟩
       have hb4 := hb3.ext hx4 (by simp)
       have hz4 := hz3.ext hx4 (by simp)
       have hE4 := hE3.trans hx4
       have hg4 : w.heap.size ≤ g4 := Nat.le_trans hE3.size hg4
       clear hb3 hz3 hE3 hB3 hx4 k0 k1 k2 f0 f1 f2 z0 z1 z2 s0 s1 s2)
    | (go_at_call 41
       refine (i_4 (b.drop 1) g4 0 x1 4 w4 c4 H1.out hR4 r1.1 r1.2).mono ?_
       rintro e w5 ⟨c5, rfl, hR5, hx5, hB5⟩
       have hb5 := hb4.ext hx5 (by simp)
       have hz5 := hz4.ext hx5 (by simp)
       have hE5 : Ext [] w c w5 c5 := hE4.later (Nat.le_refl _) (hB5.mono hg4) (fun _ hk => hx5.col _ hk)
       replace hB5 := hE5.belowAll
       clear hb4 hz4 hE4 hx5
       obtain ⟨⟨k0, k1, k2⟩, f0, f1, f2⟩ := Bx.three hb5
       obtain ⟨⟨z0, z1, z2⟩, s0, s1, s2⟩ := Bx.three hz5))
  obtain ⟨hbs, hes, hls⟩ := hb5.set 0 (.int .i64 (sI 4 x1))
  have zz0 := hz5.ext hes (by simp)
  have HB := hE5.belowAll.trans (hls.mono hp3)
  obtain ⟨zz1, _, l1⟩ := zz0.set 0 (.int .i64 (sI 4 x1))
  obtain ⟨zz2, _, l2⟩ := zz1.set 1 (.int .i64 (Go.bits .and .i64 x0 7))
  obtain ⟨zz3, _, l3⟩ := zz2.set 2 (.int .i64 0)
  have zz : Bx _ _ 10 w.heap.size #[.int .i64 (sI 4 x1), .int .i64 (Go.bits .and .i64 x0 7), .int .i64 0] 23 := zz3
  obtain ⟨⟨q0, q1, q2⟩, _⟩ := Bx.three zz
  exact bodyPost_ret (v := .tuple #[.agg #[.int .i64 (sI 4 x1), .int .i64 (Go.bits .and .i64 x0 7), .int .i64 0], .bool true]) (by simp [results, Try.results18, go_sem, q0, q1, q2]) rfl ⟨rfl, ((HB.trans l1).trans l2).trans l3⟩
set_option maxRecDepth 100000 in
set_option maxHeartbeats 3200000 in
theorem get_c4t (g v : Int) (b : List Int) (q o cap : Nat) (w : World) (c : Col) (S : List Nat) (hx : Rd u8 w c S (.slice (some ⟨q, o, none⟩) 11 cap) b) (hl : b.length = 11) (x0 : Int) (h0 : b[0]? = some x0) (r0 : 0 ≤ x0 ∧ x0 ≤ 255) (e1 : vari_shaped.f 20 g v = some (4, true, true)) (e2 : vari_Size.f 20 g v = some (11, true)) (kd : Int) (e3 : vari_Kind.f 20 g = some kd) (d1 : (kd == 1) = false) (d6 : (kd == 6) = false) (d2 : (kd == 2) = false) (x1 : Int) (h1 : rU (b.drop 1) 0 4 = (x1, .nil, 4)) (r1 : 0 ≤ x1 ∧ x1 < 4294967296) (x2 : Int) (h2 : rU (b.drop 5) 0 6 = (x2, .nil, 6)) :
    Calls Try.prog 18 #[.int .i64 g, .int .i64 v, .slice (some ⟨q, o, none⟩) 11 cap] w fun e w' => e = .returned (.tuple #[.agg #[.int .i64 (sI 4 x1), .int .i64 (Go.bits .and .i64 x0 7), .int .i64 x2], .bool true]) ∧ Below w.heap.size w w' := by
  have HS := Lib.hid fun w => vari_shaped.calls 20 g v _ _ _ w e1
  have HZ := Lib.hid fun w => vari_Size.calls 20 g v _ _ w e2
  have HK := Lib.hid fun w => vari_Kind.calls 20 g _ w e3
  have HX := Lib.hid hx
  have HL := Lib.hid hl
  have H0 := Lib.hid h0
  obtain ⟨A1, cut1, rd1⟩ := cut_l (P := Try.prog) u8 25 5 _ _ Try.underlying25 info_u8 (some ⟨q, o, none⟩) 11 cap .i64 1 10 (by omega) (by omega)
  have H1 := Lib.hid h1
  have RD1 := Lib.hid rd1
  clear h1 rd1
  obtain ⟨A2, cut2, rd2⟩ := cut_l (P := Try.prog) u8 25 5 _ _ Try.underlying25 info_u8 (some ⟨q, o, none⟩) 11 cap .i64 5 6 (by omega) (by omega)
  have H2 := Lib.hid h2
  have RD2 := Lib.hid rd2
  clear h2 rd2
  clear hx hl h0 e1 e2 e3
  go_enter Try.func18, Try.ntmps18
  go_wp2_with (first
    | (go_at_call 34
       refine (HS.out _).mono ?_
       rintro e w1 ⟨rfl, ⟨nd, rfl⟩⟩
       have hz1 := (Bx.new w c 10 #[.int .i64 0, .int .i64 0, .int .i64 0] 23).ext ((Ext.refl [] _ _).drewN nd) (by simp)
       have hE1 := (Ext.alloc [] w c (.cells #[.int .i64 0, .int .i64 0, .int .i64 0] 23) 10).drewN nd
       generalize ((w.alloc (.cells #[.int .i64 0, .int .i64 0, .int .i64 0] 23)).drewN nd) = w1 at *)
    | (go_at_call 21
       refine (HZ.out _).mono ?_
       rintro e w2 ⟨rfl, ⟨nd2, rfl⟩⟩
       have hz2 := hz1.ext ((Ext.refl [] _ _).drewN nd2) (by simp)
       have hE2 := hE1.drewN nd2
       clear hz1 hE1
       generalize (w1.drewN nd2) = w2 at *
       have hx2 := HX.out.ext hE2 (by simp)
       have kc := rd_cell hx2 H0.out
       clear hx2)
    | (go_at_call 14
       refine (HK.out _).mono ?_
       rintro e w3 ⟨rfl, ⟨nd3, rfl⟩⟩
       have hb3 := (Bx.new w2 (cx c w.heap.size 10) 11 #[.int .i64 0, .int .i64 (Go.bits .and .i64 x0 7), .int .i64 0] 23).ext ((Ext.refl [] _ _).drewN nd3) (by simp)
       have hx3 := (Ext.alloc [] w2 (cx c w.heap.size 10) (.cells #[.int .i64 0, .int .i64 (Go.bits .and .i64 x0 7), .int .i64 0] 23) 11).drewN nd3
       have hz3 := hz2.ext hx3 (by simp)
       have hE3 := hE2.trans hx3
       have hp3 := hE2.size
       have hlp := blkLt hz2.1
       clear hz2 hE2 hx3 kc
       generalize ((w2.alloc (.cells #[.int .i64 0, .int .i64 (Go.bits .and .i64 x0 7), .int .i64 0] 23)).drewN nd3) = w3 at *
       generalize hc3 : cx (cx c w.heap.size 10) w2.heap.size 11 = c3 at *
       clear hc3
       generalize w2.heap.size = p at *
       have hB3 := hE3.belowAll
       obtain ⟨⟨k0, k1, k2⟩, f0, f1, f2⟩ := Bx.three hb3
       obtain ⟨⟨z0, z1, z2⟩, s0, s1, s2⟩ := Bx.three hz3)
    | (go_at_call 40
       refine (newReader_calls (b.drop 1) _ w3 c3 S 12 (RD1.out w3 c3 S b (HX.out.ext hE3 (by simp))) (by rw [List.length_drop, HL.out]; omega)).mono ?_
       rintro e w4 ⟨g4, c4, rfl, hg4, hR4, hx4⟩
       have hb4 := hb3.ext hx4 (by simp)
       have hz4 := hz3.ext hx4 (by simp)
       have hE4 := hE3.trans hx4
       have hg4 : w.heap.size ≤ g4 := Nat.le_trans hE3.size hg4
       clear hb3 hz3 hE3 hB3 hx4 k0 k1 k2 f0 f1 f2 z0 z1 z2 s0 s1 s2)
    | (go_at_call 41
       refine (i_4 (b.drop 1) g4 0 x1 4 w4 c4 H1.out hR4 r1.1 r1.2).mono ?_
       rintro e w5 ⟨c5, rfl, hR5, hx5, hB5⟩
       have hb5 := hb4.ext hx5 (by simp)
       have hz5 := hz4.ext hx5 (by simp)
       have hE5 : Ext [] w c w5 c5 := hE4.later (Nat.le_refl _) (hB5.mono hg4) (fun _ hk => hx5.col _ hk)
       replace hB5 := hE5.belowAll
       clear hb4 hz4 hE4 hx5
       obtain ⟨⟨k0, k1, k2⟩, f0, f1, f2⟩ := Bx.three hb5
       obtain ⟨⟨z0, z1, z2⟩, s0, s1, s2⟩ := Bx.three hz5)
    | (go_at_call 40
       obtain ⟨hbs, hes, hls⟩ := hb5.set 0 (.int .i64 (sI 4 x1))
       have hb6 : Bx (w5.setCell ⟨p, 0, none⟩ (.int .i64 (sI 4 x1))) c5 11 p #[.int .i64 (sI 4 x1), .int .i64 (Go.bits .and .i64 x0 7), .int .i64 0] 23 := hbs
       have hz6 := hz5.ext hes (by simp)
       have hE6 : Ext [] w c (w5.setCell ⟨p, 0, none⟩ (.int .i64 (sI 4 x1))) c5 := hE5.later (Nat.le_refl _) (hls.mono hp3) (fun _ _ => rfl)
       clear hbs hes hls hb5 hz5 hE5 hB5 k0 k1 k2 f0 f1 f2 z0 z1 z2 s0 s1 s2
       generalize (w5.setCell ⟨p, 0, none⟩ (.int .i64 (sI 4 x1))) = w6 at *
       refine (newReader_calls (b.drop 5) _ w6 c5 S 12 (RD2.out w6 c5 S b (HX.out.ext hE6 (by simp))) (by rw [List.length_drop, HL.out]; omega)).mono ?_
       rintro e w7 ⟨g7, c7, rfl, hg7, hR7, hx7⟩
       have hb7 := hb6.ext hx7 (by simp)
       have hz7 := hz6.ext hx7 (by simp)
       have hE7 := hE6.trans hx7
       have hg7 : w.heap.size ≤ g7 := Nat.le_trans hE6.size hg7
       clear hb6 hz6 hE6 hx7)
    | (go_at_call 42
       refine (u_plain (b.drop 5) g7 0 6 x2 6 w7 c7 H2.out hR7).mono ?_
       rintro e w8 ⟨c8, rfl, hR8, hx8, hB8⟩
       have hb8 := hb7.ext hx8 (by simp)
       have hz8 := hz7.ext hx8 (by simp)
       have hE8 : Ext [] w c w8 c8 := hE7.later (Nat.le_refl _) (hB8.mono hg7) (fun _ hk => hx8.col _ hk)
       clear hb7 hz7 hE7 hx8
       obtain ⟨⟨k0, k1, k2⟩, f0, f1, f2⟩ := Bx.three hb8
       obtain ⟨⟨z0, z1, z2⟩, s0, s1, s2⟩ := Bx.three hz8))
  obtain ⟨hbs, hes, hls⟩ := hb8.set 2 (.int .i64 x2)
  have zz0 := hz8.ext hes (by simp)
  have HB := hE8.belowAll.trans (hls.mono hp3)
  obtain ⟨zz1, _, l1⟩ := zz0.set 0 (.int .i64 (sI 4 x1))
  obtain ⟨zz2, _, l2⟩ := zz1.set 1 (.int .i64 (Go.bits .and .i64 x0 7))
  obtain ⟨zz3, _, l3⟩ := zz2.set 2 (.int .i64 x2)
  have zz : Bx _ _ 10 w.heap.size #[.int .i64 (sI 4 x1), .int .i64 (Go.bits .and .i64 x0 7), .int .i64 x2] 23 := zz3
  obtain ⟨⟨q0, q1, q2⟩, _⟩ := Bx.three zz
  exact bodyPost_ret (v := .tuple #[.agg #[.int .i64 (sI 4 x1), .int .i64 (Go.bits .and .i64 x0 7), .int .i64 x2], .bool true]) (by simp [results, Try.results18, go_sem, q0, q1, q2]) rfl ⟨rfl, ((HB.trans l1).trans l2).trans l3⟩
set_option maxRecDepth 100000 in
set_option maxHeartbeats 3200000 in
theorem get_c2f (g v : Int) (b : List Int) (q o cap : Nat) (w : World) (c : Col) (S : List Nat) (hx : Rd u8 w c S (.slice (some ⟨q, o, none⟩) 3 cap) b) (hl : b.length = 3) (x0 : Int) (h0 : b[0]? = some x0) (r0 : 0 ≤ x0 ∧ x0 ≤ 255) (e1 : vari_shaped.f 20 g v = some (2, false, true)) (e2 : vari_Size.f 20 g v = some (3, true)) (kd : Int) (e3 : vari_Kind.f 20 g = some kd) (d1 : (kd == 1) = false) (d6 : (kd == 6) = false) (d2 : (kd == 2) = false) (x1 : Int) (h1 : rU (b.drop 1) 0 2 = (x1, .nil, 2)) (r1 : 0 ≤ x1 ∧ x1 < 65536) :
    Calls Try.prog 18 #[.int .i64 g, .int .i64 v, .slice (some ⟨q, o, none⟩) 3 cap] w fun e w' => e = .returned (.tuple #[.agg #[.int .i64 (sI 2 x1), .int .i64 (Go.bits .and .i64 x0 7), .int .i64 0], .bool true]) ∧ Below w.heap.size w w' := by
  have HS := Lib.hid fun w => vari_shaped.calls 20 g v _ _ _ w e1
  have HZ := Lib.hid fun w => vari_Size.calls 20 g v _ _ w e2
  have HK := Lib.hid fun w => vari_Kind.calls 20 g _ w e3
  have HX := Lib.hid hx
  have HL := Lib.hid hl
  have H0 := Lib.hid h0
  obtain ⟨A1, cut1, rd1⟩ := cut_l (P := Try.prog) u8 25 5 _ _ Try.underlying25 info_u8 (some ⟨q, o, none⟩) 3 cap .i64 1 2 (by omega) (by omega)
  have H1 := Lib.hid h1
  have RD1 := Lib.hid rd1
  clear h1 rd1
  clear hx hl h0 e1 e2 e3
  go_enter Try.func18, Try.ntmps18
  go_wp2_with (first
    | (go_at_call 34
       refine (HS.out _).mono ?_
       rintro e w1 ⟨rfl, ⟨nd, rfl⟩⟩
       have hz1 := (Bx.new w c 10 #[.int .i64 0, .int .i64 0, .int .i64 0] 23).ext ((Ext.refl [] _ _).drewN nd) (by simp)
       have hE1 := (Ext.alloc [] w c (.cells #[.int .i64 0, .int .i64 0, .int .i64 0] 23) 10).drewN nd
       generalize ((w.alloc (.cells #[.int .i64 0, .int .i64 0, .int .i64 0] 23)).drewN nd) = w1 at *)
    | (go_at_call 21
       refine (HZ.out _).mono ?_
       rintro e w2 ⟨rfl, ⟨nd2, rfl⟩⟩
       have hz2 := hz1.ext ((Ext.refl [] _ _).drewN nd2) (by simp)
       have hE2 := hE1.drewN nd2
       clear hz1 hE1
       generalize (w1.drewN nd2) = w2 at *
       have hx2 := HX.out.ext hE2 (by simp)
       have kc := rd_cell hx2 H0.out
       clear hx2)
    | (go_at_call 14
       refine (HK.out _).mono ?_
       rintro e w3 ⟨rfl, ⟨nd3, rfl⟩⟩
       have hb3 := (Bx.new w2 (cx c w.heap.size 10) 11 #[.int .i64 0, .int .i64 (Go.bits .and .i64 x0 7), .int .i64 0] 23).ext ((Ext.refl [] _ _).drewN nd3) (by simp)
       have hx3 := (Ext.alloc [] w2 (cx c w.heap.size 10) (.cells #[.int .i64 0, .int .i64 (Go.bits .and .i64 x0 7), .int .i64 0] 23) 11).drewN nd3
       have hz3 := hz2.ext hx3 (by simp)
       have hE3 := hE2.trans hx3
       have hp3 := hE2.size
       have hlp := blkLt hz2.1
       clear hz2 hE2 hx3 kc
       generalize ((w2.alloc (.cells #[.int .i64 0, .int .i64 (Go.bits .and .i64 x0 7), .int .i64 0] 23)).drewN nd3) = w3 at *
       generalize hc3 : cx (cx c w.heap.size 10) w2.heap.size 11 = c3 at *
       clear hc3
       generalize w2.heap.size = p at *
       have hB3 := hE3.belowAll
       obtain ⟨⟨k0, k1, k2⟩, f0, f1, f2⟩ := Bx.three hb3
       obtain ⟨⟨z0, z1, z2⟩, s0, s1, s2⟩ := Bx.three hz3)
    | (go_at_call 40
       refine (newReader_calls (b.drop 1) _ w3 c3 S 12 (RD1.out w3 c3 S b (HX.out.ext hE3 (by simp))) (by rw [List.length_drop, HL.out]; omega)).mono ?_
       rintro e w4 ⟨g4, c4, rfl, hg4, hR4, hx4⟩
       have hb4 := hb3.ext hx4 (by simp)
       have hz4 := hz3.ext hx4 (by simp)
       have hE4 := hE3.trans hx4
       have hg4 : w.heap.size ≤ g4 := Nat.le_trans hE3.size hg4
       clear hb3 hz3 hE3 hB3 hx4 k0 k1 k2 f0 f1 f2 z0 z1 z2 s0 s1 s2)
    | (go_at_call 41
       refine (i_2 (b.drop 1) g4 0 x1 2 w4 c4 H1.out hR4 r1.1 r1.2).mono ?_
       rintro e w5 ⟨c5, rfl, hR5, hx5, hB5⟩
       have hb5 := hb4.ext hx5 (by simp)
       have hz5 := hz4.ext hx5 (by simp)
       have hE5 : Ext [] w c w5 c5 := hE4.later (Nat.le_refl _) (hB5.mono hg4) (fun _ hk => hx5.col _ hk)
       replace hB5 := hE5.belowAll
       clear hb4 hz4 hE4 hx5
       obtain ⟨⟨k0, k1, k2⟩, f0, f1, f2⟩ := Bx.three hb5
       obtain ⟨⟨z0, z1, z2⟩, s0, s1, s2⟩ := Bx.three hz5))
  obtain ⟨hbs, hes, hls⟩ := hb5.set 0 (.int .i64 (sI 2 x1))
  have zz0 := hz5.ext hes (by simp)
  have HB := hE5.belowAll.trans (hls.mono hp3)
  obtain ⟨zz1, _, l1⟩ := zz0.set 0 (.int .i64 (sI 2 x1))
  obtain ⟨zz2, _, l2⟩ := zz1.set 1 (.int .i64 (Go.bits .and .i64 x0 7))
  obtain ⟨zz3, _, l3⟩ := zz2.set 2 (.int .i64 0)
  have zz : Bx _ _ 10 w.heap.size #[.int .i64 (sI 2 x1), .int .i64 (Go.bits .and .i64 x0 7), .int .i64 0] 23 := zz3
  obtain ⟨⟨q0, q1, q2⟩, _⟩ := Bx.three zz
  exact bodyPost_ret (v := .tuple #[.agg #[.int .i64 (sI 2 x1), .int .i64 (Go.bits .and .i64 x0 7), .int .i64 0], .bool true]) (by simp [results, Try.results18, go_sem, q0, q1, q2]) rfl ⟨rfl, ((HB.trans l1).trans l2).trans l3⟩
end Go.Proofs.Ytpchlljelbpanaa.Vari
