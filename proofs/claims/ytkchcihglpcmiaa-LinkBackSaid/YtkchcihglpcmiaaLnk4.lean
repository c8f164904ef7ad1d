/- Chapter 14: a frame is read. -/
import Derived.Test.YtkchcihglpcmiaaLnk3
import Derived.StillTailTactics
namespace Go.Proofs.Ytkchcihglpcmiaa.Link
open Go.RowKit Go.Proofs.Ytkchcihglpcmiaa.Sk Go.Proofs.Ytkchcihglpcmiaa.Num Go.Proofs.Ytkchcihglpcmiaa.Wire Go.Proofs.Ytkchcihglpcmiaa.PLk
open Go.Proofs.YtkchcihglpcmiaaW.PrintWords Go.Proofs.YtkchcihglpcmiaaW.PrintLast Go.Proofs.YtkchcihglpcmiaaW.PrintMore

theorem rd_addr {w : World} {c : Col} {S : List Nat} {A : Option Addr} {n cap : Nat} {xs : List Int} (h : Rd u8 w c S (.slice A n cap) xs) (hp : 0 < xs.length) : ∃ q o, A = some ⟨q, o, none⟩ := by
  obtain ⟨A', cap', e, _, _, h3⟩ := h.form
  injection e with e1 _ _
  obtain ⟨q, o, e, _⟩ := h3 hp
  exact ⟨q, o, e1.trans e⟩
theorem rd_cellAt {w : World} {c : Col} {S : List Nat} {q o m cap : Nat} {b : List Int} {x : Int} (h : Rd u8 w c S (.slice (some ⟨q, o, none⟩) m cap) b) (i : Nat) (hx : b[i]? = some x) : w.cell? ⟨q, o + i, none⟩ = some (.int .u8 x) := by
  have hlt := (List.getElem?_eq_some_iff.1 hx).1
  obtain ⟨A', cap', e, _, _, h3⟩ := h.form
  injection e with e1 _ _
  obtain ⟨q', o', e, _, _, hc⟩ := h3 (by omega)
  rw [← e1] at e
  injection e with e
  injection e with e2 e3 _
  subst e2 e3
  obtain ⟨cs, ⟨hk, _⟩, hj⟩ := hc i x hx
  have := hj 0 (.int .u8 x) (by rw [hk]; rfl)
  simpa [u8, kint] using this
theorem Bx.four {w : World} {c : Col} {κ b : Nat} {a0 a1 a2 a3 : Value} {T : TypeId} (h : Bx w c κ b #[a0, a1, a2, a3] T) :
    (w.cell? ⟨b, 0, none⟩ = some a0 ∧ w.cell? ⟨b, 1, none⟩ = some a1 ∧ w.cell? ⟨b, 2, none⟩ = some a2 ∧ w.cell? ⟨b, 3, none⟩ = some a3) ∧
    w.frozen? ⟨b, 0, none⟩ = false ∧ w.frozen? ⟨b, 1, none⟩ = false ∧ w.frozen? ⟨b, 2, none⟩ = false ∧ w.frozen? ⟨b, 3, none⟩ = false :=
  ⟨⟨h.cell 0, h.cell 1, h.cell 2, h.cell 3⟩, h.free 0, h.free 1, h.free 2, h.free 3⟩
theorem Bx.set4 {w : World} {c : Col} {κ b : Nat} {a0 a1 a2 a3 : Value} {T : TypeId} (h : Bx w c κ b #[a0, a1, a2, a3] T) (v0 v1 v2 v3 : Value) :
    Bx ((((w.setCell ⟨b, 0, none⟩ v0).setCell ⟨b, 1, none⟩ v1).setCell ⟨b, 2, none⟩ v2).setCell ⟨b, 3, none⟩ v3) c κ b #[v0, v1, v2, v3] T ∧
    Ext [κ] w c ((((w.setCell ⟨b, 0, none⟩ v0).setCell ⟨b, 1, none⟩ v1).setCell ⟨b, 2, none⟩ v2).setCell ⟨b, 3, none⟩ v3) c ∧
    Below b w ((((w.setCell ⟨b, 0, none⟩ v0).setCell ⟨b, 1, none⟩ v1).setCell ⟨b, 2, none⟩ v2).setCell ⟨b, 3, none⟩ v3) := by
  obtain ⟨h1, h2⟩ := h
  refine ⟨⟨?_, h2⟩, ?_, ?_⟩
  · have := blkSet (blkSet (blkSet (blkSet h1 0 v0) 1 v1) 2 v2) 3 v3
    simpa using this
  · have e : ∀ (W : World) (i : Nat) (v : Value), Ext [κ] W c (W.setCell ⟨b, i, none⟩ v) c := fun W i v => Ext.set (by simp [h2]) v
    exact (((e _ _ _).trans (e _ _ _)).trans (e _ _ _)).trans (e _ _ _)
  · exact ((((Below.refl b w).setCell (Nat.le_refl _) _).setCell (Nat.le_refl _) _).setCell (Nat.le_refl _) _).setCell (Nat.le_refl _) _
set_option maxHeartbeats 400000 in
theorem lin_calls (p k : Int) (w : World) (c : Col) : Calls Try.prog 26 #[.int .i64 p, .int .i64 k] w fun e w' => ∃ t u c', e = .returned (.iface t u) ∧ Ext [] w c w' c' := by
  have hE := Ext.refl [] w c
  go_enter Try.func26, Try.ntmps26
  go_wp2_with (go_at_call 42; refine (in_calls _ _ (.code k) _ _ c [0] 0 (by simp) rfl).mono ?_; rintro e w1 ⟨v1, c1, rfl, ⟨g1, ve1, rfl, hx1⟩, he⟩; clear hx1)
  go_ret
  exact ⟨_, _, _, rfl, he⟩
structure Fr where
  ctl : Int
  dest : Int
  src : Int
  data : List Int
/-- What Decode reads. -/
def decodeV (xs : List Int) : Option Fr :=
  if xs.length < 10 then none
  else if ¬ (xs.getD 0 0 = 5 ∧ xs.getD 1 0 = 100) then none
  else if fitsV (xs.take 10) = false then none
  else if xs.getD 2 0 < 5 then none
  else if xs.length ≠ sizeV (xs.getD 2 0 - 5).toNat then none
  else if (dataF xs).2 ≥ 0 then none
  else some ⟨xs.getD 3 0, xs.getD 4 0 + 256 * xs.getD 5 0, xs.getD 6 0 + 256 * xs.getD 7 0, (dataF xs).1⟩
def DecBad (w : World) (c : Col) (e : Ending) (w' : World) : Prop := ∃ t u c', e = .returned (.tuple #[.agg #[.int .i64 0, .int .i64 0, .int .i64 0, .slice none 0 0], .iface t u]) ∧ Ext [] w c w' c'
def DecOk (f : Fr) (w : World) (c : Col) (e : Ending) (w' : World) : Prop := ∃ v c', e = .returned (.tuple #[.agg #[.int .i64 f.ctl, .int .i64 f.dest, .int .i64 f.src, v], .nilIface]) ∧ Own u8 5 w' c' 7 [] w.heap.size v f.data ∧ Ext [] w c w' c'
theorem size_mod (n : Nat) (h : n ≤ 250) : 10 ≤ sizeV n ∧ sizeV n ≤ 292 ∧ ((sizeV n - 10) % 18 = 0 ∨ 3 ≤ (sizeV n - 10) % 18) := by
  unfold sizeV; omega

set_option maxRecDepth 100000 in
set_option maxHeartbeats 1600000 in
theorem dec_short (xs : List Int) (A : Option Addr) (cap : Nat) (w : World) (c : Col) (S : List Nat) (hx0 : Rd u8 w c S (.slice A xs.length cap) xs) (hl : xs.length ≤ 1000000) (h7 : 7 ∉ S) (h : xs.length < 10) :
    Calls Try.prog 12 #[.slice A xs.length cap] w (DecBad w c) := by
  have hcc : xs.length ≤ cap := by obtain ⟨_, _, e, h⟩ := hx0.slice; injection e with _ _ e; omega
  have hE0 := Ext.alloc [] w c (.cells #[.int .i64 0, .int .i64 0, .int .i64 0, .slice none 0 0] 24) 9
  have hb0 := Bx.new w c 9 #[.int .i64 0, .int .i64 0, .int .i64 0, .slice none 0 0] 24
  have hx := hx0.ext hE0 (by simp)
  generalize hcz : cx c w.heap.size 9 = cz at *
  clear hcz
  have d10 : decide ((xs.length : Int) < 10) = true := decide_eq_true (by omega)
  clear h hx0
  go_enter Try.func12, Try.ntmps12
  go_wp2_with (first
    | (go_at_call 26
       have htok := hE0
       clear htok
       refine (lin_calls _ _ (w.alloc (.cells #[.int .i64 0, .int .i64 0, .int .i64 0, .slice none 0 0] 24)) cz).mono ?_
       rintro e wE ⟨tE, uE, cE, rfl, he⟩
       have hEE := hE0.trans he
       replace hb0 := hb0.ext he (by simp)
       skip
       obtain ⟨⟨k0, k1, k2, k3⟩, f0, f1, f2, f3⟩ := (Bx.four hb0)
       clear hE0 he))
  all_goals
   obtain ⟨hbF, hE4, hB4⟩ := Bx.set4 hb0 (.int .i64 0) (.int .i64 0) (.int .i64 0) (.slice none 0 0)
   have hEF := hEE.later (Nat.le_refl _) hB4 (fun _ _ => rfl)
   generalize ((((wE.setCell ⟨w.heap.size, 0, none⟩ (.int .i64 0)).setCell ⟨w.heap.size, 1, none⟩ (.int .i64 0)).setCell ⟨w.heap.size, 2, none⟩ (.int .i64 0)).setCell ⟨w.heap.size, 3, none⟩ (.slice none 0 0)) = wF at *
   obtain ⟨⟨q0, q1, q2, q3⟩, _⟩ := (Bx.four hbF)
   exact bodyPost_ret (v := .tuple #[.agg #[.int .i64 0, .int .i64 0, .int .i64 0, .slice none 0 0], .iface tE uE]) (by simp [results, Try.results12, go_sem, q0, q1, q2, q3]) rfl ⟨_, _, _, rfl, hEF⟩

set_option maxRecDepth 100000 in
set_option maxHeartbeats 1600000 in
theorem dec_form (xs : List Int) (A : Option Addr) (cap : Nat) (w : World) (c : Col) (S : List Nat) (hx0 : Rd u8 w c S (.slice A xs.length cap) xs) (hl : xs.length ≤ 1000000) (h7 : 7 ∉ S) (h : 10 ≤ xs.length) (x0 x1 : Int) (y0 : xs[0]? = some x0) (y1 : xs[1]? = some x1) (hf : ¬ (x0 = 5 ∧ x1 = 100)) :
    Calls Try.prog 12 #[.slice A xs.length cap] w (DecBad w c) := by
  have hcc : xs.length ≤ cap := by obtain ⟨_, _, e, h⟩ := hx0.slice; injection e with _ _ e; omega
  have hE0 := Ext.alloc [] w c (.cells #[.int .i64 0, .int .i64 0, .int .i64 0, .slice none 0 0] 24) 9
  have hb0 := Bx.new w c 9 #[.int .i64 0, .int .i64 0, .int .i64 0, .slice none 0 0] 24
  have hx := hx0.ext hE0 (by simp)
  generalize hcz : cx c w.heap.size 9 = cz at *
  clear hcz
  obtain ⟨B, o', rfl⟩ := rd_addr hx0 (by omega)
  have z0 := rd_cellAt hx0 0 y0
  have z1 := rd_cellAt hx0 1 y1
  simp only [Nat.add_zero] at z0
  have hlB := World.block_lt_of_cell? w _ z0
  simp only at hlB
  have d10 : decide ((xs.length : Int) < 10) = false := decide_eq_false (by omega)
  have hb : ∃ b1 b2 : Bool, (x0 == 5) = b1 ∧ (x1 == 100) = b2 ∧ (b1 && b2) = false := ⟨_, _, rfl, rfl, by simpa using hf⟩
  obtain ⟨b1, b2, e1, e2, e3⟩ := hb
  clear hx0 hf y0 y1
  cases b1 <;> cases b2 <;> first | (exfalso; revert e3; decide) | clear e3
  all_goals skip
  all_goals
    go_enter Try.func12, Try.ntmps12
    go_wp2_with (first
      | (go_at_call 26
         have htok := hE0
         clear htok
         refine (lin_calls _ _ (w.alloc (.cells #[.int .i64 0, .int .i64 0, .int .i64 0, .slice none 0 0] 24)) cz).mono ?_
         rintro e wE ⟨tE, uE, cE, rfl, he⟩
         have hEE := hE0.trans he
         replace hb0 := hb0.ext he (by simp)
         skip
         obtain ⟨⟨k0, k1, k2, k3⟩, f0, f1, f2, f3⟩ := (Bx.four hb0)
         clear hE0 he))
    all_goals
     obtain ⟨hbF, hE4, hB4⟩ := Bx.set4 hb0 (.int .i64 0) (.int .i64 0) (.int .i64 0) (.slice none 0 0)
     have hEF := hEE.later (Nat.le_refl _) hB4 (fun _ _ => rfl)
     generalize ((((wE.setCell ⟨w.heap.size, 0, none⟩ (.int .i64 0)).setCell ⟨w.heap.size, 1, none⟩ (.int .i64 0)).setCell ⟨w.heap.size, 2, none⟩ (.int .i64 0)).setCell ⟨w.heap.size, 3, none⟩ (.slice none 0 0)) = wF at *
     obtain ⟨⟨q0, q1, q2, q3⟩, _⟩ := (Bx.four hbF)
     exact bodyPost_ret (v := .tuple #[.agg #[.int .i64 0, .int .i64 0, .int .i64 0, .slice none 0 0], .iface tE uE]) (by simp [results, Try.results12, go_sem, q0, q1, q2, q3]) rfl ⟨_, _, _, rfl, hEF⟩

set_option maxRecDepth 100000 in
set_option maxHeartbeats 1600000 in
theorem dec_sum (xs : List Int) (A : Option Addr) (cap : Nat) (w : World) (c : Col) (S : List Nat) (hx0 : Rd u8 w c S (.slice A xs.length cap) xs) (hl : xs.length ≤ 1000000) (h7 : 7 ∉ S) (h : 10 ≤ xs.length) (y0 : xs[0]? = some 5) (y1 : xs[1]? = some 100) (x2 : Int) (y2 : xs[2]? = some x2) (hfit : fitsV (xs.take 10) = false) :
    Calls Try.prog 12 #[.slice A xs.length cap] w (DecBad w c) := by
  have hcc : xs.length ≤ cap := by obtain ⟨_, _, e, h⟩ := hx0.slice; injection e with _ _ e; omega
  have hE0 := Ext.alloc [] w c (.cells #[.int .i64 0, .int .i64 0, .int .i64 0, .slice none 0 0] 24) 9
  have hb0 := Bx.new w c 9 #[.int .i64 0, .int .i64 0, .int .i64 0, .slice none 0 0] 24
  have hx := hx0.ext hE0 (by simp)
  generalize hcz : cx c w.heap.size 9 = cz at *
  clear hcz
  obtain ⟨B, o', rfl⟩ := rd_addr hx0 (by omega)
  have z0 := rd_cellAt hx0 0 y0
  have z1 := rd_cellAt hx0 1 y1
  have z2 := rd_cellAt hx0 2 y2
  simp only [Nat.add_zero] at z0
  have hlB := World.block_lt_of_cell? w _ z0
  simp only at hlB
  obtain ⟨A10, hcut10, hrd10⟩ := Sk.cut_h (P := Try.prog) Wire.u8 22 5 _ _ Try.underlying22 info_u8 (some ⟨B, o', none⟩) xs.length cap .i64 (10 : Int) 10 rfl (by omega) hcc
  have hr10 := hrd10 _ cz S xs hx
  have ht10 : (xs.take 10).length = 10 := by rw [List.length_take]; omega
  clear hrd10
  have d10 : decide ((xs.length : Int) < 10) = false := decide_eq_false (by omega)
  clear hx0
  go_enter Try.func12, Try.ntmps12
  go_wp2_with (first
    | (go_at_call 32
       have htok := hE0
       clear htok
       have hQ := fits_calls (xs.take 10) A10 cap (w.alloc (.cells #[.int .i64 0, .int .i64 0, .int .i64 0, .slice none 0 0] 24)) cz S (by rw [ht10]; exact hr10) (by omega) (by omega)
       rw [ht10, hfit] at hQ
       refine (hQ).mono ?_
       rintro e w1 ⟨c1, rfl, he⟩
       have hE1 := hE0.trans he
       replace hb0 := hb0.ext he (by simp)
       replace hx := hx.ext he (by simp)
       clear hQ hr10
       have zz2 := rd_cellAt hx 2 y2
       clear z0 z1 z2
       clear hE0 he)
    | (go_at_call 26
       have htok := hE1
       clear htok
       refine (lin_calls _ _ w1 c1).mono ?_
       rintro e wE ⟨tE, uE, cE, rfl, he⟩
       have hEE := hE1.trans he
       replace hb0 := hb0.ext he (by simp)
       skip
       obtain ⟨⟨k0, k1, k2, k3⟩, f0, f1, f2, f3⟩ := (Bx.four hb0)
       clear hE1 he))
  all_goals
   obtain ⟨hbF, hE4, hB4⟩ := Bx.set4 hb0 (.int .i64 0) (.int .i64 0) (.int .i64 0) (.slice none 0 0)
   have hEF := hEE.later (Nat.le_refl _) hB4 (fun _ _ => rfl)
   generalize ((((wE.setCell ⟨w.heap.size, 0, none⟩ (.int .i64 0)).setCell ⟨w.heap.size, 1, none⟩ (.int .i64 0)).setCell ⟨w.heap.size, 2, none⟩ (.int .i64 0)).setCell ⟨w.heap.size, 3, none⟩ (.slice none 0 0)) = wF at *
   obtain ⟨⟨q0, q1, q2, q3⟩, _⟩ := (Bx.four hbF)
   exact bodyPost_ret (v := .tuple #[.agg #[.int .i64 0, .int .i64 0, .int .i64 0, .slice none 0 0], .iface tE uE]) (by simp [results, Try.results12, go_sem, q0, q1, q2, q3]) rfl ⟨_, _, _, rfl, hEF⟩

set_option maxRecDepth 100000 in
set_option maxHeartbeats 1600000 in
theorem dec_least (xs : List Int) (A : Option Addr) (cap : Nat) (w : World) (c : Col) (S : List Nat) (hx0 : Rd u8 w c S (.slice A xs.length cap) xs) (hl : xs.length ≤ 1000000) (h7 : 7 ∉ S) (h : 10 ≤ xs.length) (y0 : xs[0]? = some 5) (y1 : xs[1]? = some 100) (x2 : Int) (y2 : xs[2]? = some x2) (hfit : fitsV (xs.take 10) = true) (h2 : x2 < 5) :
    Calls Try.prog 12 #[.slice A xs.length cap] w (DecBad w c) := by
  have hcc : xs.length ≤ cap := by obtain ⟨_, _, e, h⟩ := hx0.slice; injection e with _ _ e; omega
  have hE0 := Ext.alloc [] w c (.cells #[.int .i64 0, .int .i64 0, .int .i64 0, .slice none 0 0] 24) 9
  have hb0 := Bx.new w c 9 #[.int .i64 0, .int .i64 0, .int .i64 0, .slice none 0 0] 24
  have hx := hx0.ext hE0 (by simp)
  generalize hcz : cx c w.heap.size 9 = cz at *
  clear hcz
  obtain ⟨B, o', rfl⟩ := rd_addr hx0 (by omega)
  have z0 := rd_cellAt hx0 0 y0
  have z1 := rd_cellAt hx0 1 y1
  have z2 := rd_cellAt hx0 2 y2
  simp only [Nat.add_zero] at z0
  have hlB := World.block_lt_of_cell? w _ z0
  simp only at hlB
  obtain ⟨A10, hcut10, hrd10⟩ := Sk.cut_h (P := Try.prog) Wire.u8 22 5 _ _ Try.underlying22 info_u8 (some ⟨B, o', none⟩) xs.length cap .i64 (10 : Int) 10 rfl (by omega) hcc
  have hr10 := hrd10 _ cz S xs hx
  have ht10 : (xs.take 10).length = 10 := by rw [List.length_take]; omega
  clear hrd10
  have d10 : decide ((xs.length : Int) < 10) = false := decide_eq_false (by omega)
  have d2 : decide (x2 < 5) = true := decide_eq_true h2
  clear hx0 h2
  go_enter Try.func12, Try.ntmps12
  go_wp2_with (first
    | (go_at_call 32
       have htok := hE0
       clear htok
       have hQ := fits_calls (xs.take 10) A10 cap (w.alloc (.cells #[.int .i64 0, .int .i64 0, .int .i64 0, .slice none 0 0] 24)) cz S (by rw [ht10]; exact hr10) (by omega) (by omega)
       rw [ht10, hfit] at hQ
       refine (hQ).mono ?_
       rintro e w1 ⟨c1, rfl, he⟩
       have hE1 := hE0.trans he
       replace hb0 := hb0.ext he (by simp)
       replace hx := hx.ext he (by simp)
       clear hQ hr10
       have zz2 := rd_cellAt hx 2 y2
       clear z0 z1 z2
       clear hE0 he)
    | (go_at_call 26
       have htok := hE1
       clear htok
       refine (lin_calls _ _ w1 c1).mono ?_
       rintro e wE ⟨tE, uE, cE, rfl, he⟩
       have hEE := hE1.trans he
       replace hb0 := hb0.ext he (by simp)
       skip
       obtain ⟨⟨k0, k1, k2, k3⟩, f0, f1, f2, f3⟩ := (Bx.four hb0)
       clear hE1 he))
  all_goals
   obtain ⟨hbF, hE4, hB4⟩ := Bx.set4 hb0 (.int .i64 0) (.int .i64 0) (.int .i64 0) (.slice none 0 0)
   have hEF := hEE.later (Nat.le_refl _) hB4 (fun _ _ => rfl)
   generalize ((((wE.setCell ⟨w.heap.size, 0, none⟩ (.int .i64 0)).setCell ⟨w.heap.size, 1, none⟩ (.int .i64 0)).setCell ⟨w.heap.size, 2, none⟩ (.int .i64 0)).setCell ⟨w.heap.size, 3, none⟩ (.slice none 0 0)) = wF at *
   obtain ⟨⟨q0, q1, q2, q3⟩, _⟩ := (Bx.four hbF)
   exact bodyPost_ret (v := .tuple #[.agg #[.int .i64 0, .int .i64 0, .int .i64 0, .slice none 0 0], .iface tE uE]) (by simp [results, Try.results12, go_sem, q0, q1, q2, q3]) rfl ⟨_, _, _, rfl, hEF⟩

set_option maxRecDepth 100000 in
set_option maxHeartbeats 1600000 in
theorem dec_few (xs : List Int) (A : Option Addr) (cap : Nat) (w : World) (c : Col) (S : List Nat) (hx0 : Rd u8 w c S (.slice A xs.length cap) xs) (hl : xs.length ≤ 1000000) (h7 : 7 ∉ S) (h : 10 ≤ xs.length) (y0 : xs[0]? = some 5) (y1 : xs[1]? = some 100) (x2 : Int) (y2 : xs[2]? = some x2) (hfit : fitsV (xs.take 10) = true) (n : Nat) (hn : x2 = n + 5) (hn2 : n ≤ 1000) (hs : xs.length < sizeV n) :
    Calls Try.prog 12 #[.slice A xs.length cap] w (DecBad w c) := by
  have hcc : xs.length ≤ cap := by obtain ⟨_, _, e, h⟩ := hx0.slice; injection e with _ _ e; omega
  have hE0 := Ext.alloc [] w c (.cells #[.int .i64 0, .int .i64 0, .int .i64 0, .slice none 0 0] 24) 9
  have hb0 := Bx.new w c 9 #[.int .i64 0, .int .i64 0, .int .i64 0, .slice none 0 0] 24
  have hx := hx0.ext hE0 (by simp)
  generalize hcz : cx c w.heap.size 9 = cz at *
  clear hcz
  obtain ⟨B, o', rfl⟩ := rd_addr hx0 (by omega)
  have z0 := rd_cellAt hx0 0 y0
  have z1 := rd_cellAt hx0 1 y1
  have z2 := rd_cellAt hx0 2 y2
  simp only [Nat.add_zero] at z0
  have hlB := World.block_lt_of_cell? w _ z0
  simp only at hlB
  obtain ⟨A10, hcut10, hrd10⟩ := Sk.cut_h (P := Try.prog) Wire.u8 22 5 _ _ Try.underlying22 info_u8 (some ⟨B, o', none⟩) xs.length cap .i64 (10 : Int) 10 rfl (by omega) hcc
  have hr10 := hrd10 _ cz S xs hx
  have ht10 : (xs.take 10).length = 10 := by rw [List.length_take]; omega
  clear hrd10
  have d10 : decide ((xs.length : Int) < 10) = false := decide_eq_false (by omega)
  have HN := Lib.hid hn
  have HN2 := Lib.hid hn2
  have d2 : decide (x2 < 5) = false := decide_eq_false (by omega)
  have hx2 : IntKind.i64.wrap x2 = x2 := i64id (by omega) (by omega)
  clear hn hn2
  have ds : decide ((xs.length : Int) < (sizeV n : Nat)) = true := decide_eq_true (by omega)
  clear hx0
  go_enter Try.func12, Try.ntmps12
  go_wp2_with (first
    | (go_at_call 32
       have htok := hE0
       clear htok
       have hQ := fits_calls (xs.take 10) A10 cap (w.alloc (.cells #[.int .i64 0, .int .i64 0, .int .i64 0, .slice none 0 0] 24)) cz S (by rw [ht10]; exact hr10) (by omega) (by omega)
       rw [ht10, hfit] at hQ
       refine (hQ).mono ?_
       rintro e w1 ⟨c1, rfl, he⟩
       have hE1 := hE0.trans he
       replace hb0 := hb0.ext he (by simp)
       replace hx := hx.ext he (by simp)
       clear hQ hr10
       have zz2 := rd_cellAt hx 2 y2
       clear z0 z1 z2
       clear hE0 he)
    | (go_at_call 33
       have htok := hE1
       clear htok
       refine (size_calls x2 n HN.out HN2.out w1 c1).mono ?_
       rintro e w2 ⟨rfl, he⟩
       have hE2 := hE1.trans he
       replace hb0 := hb0.ext he (by simp)
       replace hx := hx.ext he (by simp)
       have zz3 := rd_cellAt hx 2 y2
       clear zz2
       clear hE1 he)
    | (go_at_call 26
       have htok := hE2
       clear htok
       refine (lin_calls _ _ w2 c1).mono ?_
       rintro e wE ⟨tE, uE, cE, rfl, he⟩
       have hEE := hE2.trans he
       replace hb0 := hb0.ext he (by simp)
       skip
       obtain ⟨⟨k0, k1, k2, k3⟩, f0, f1, f2, f3⟩ := (Bx.four hb0)
       clear hE2 he))
  all_goals
   obtain ⟨hbF, hE4, hB4⟩ := Bx.set4 hb0 (.int .i64 0) (.int .i64 0) (.int .i64 0) (.slice none 0 0)
   have hEF := hEE.later (Nat.le_refl _) hB4 (fun _ _ => rfl)
   generalize ((((wE.setCell ⟨w.heap.size, 0, none⟩ (.int .i64 0)).setCell ⟨w.heap.size, 1, none⟩ (.int .i64 0)).setCell ⟨w.heap.size, 2, none⟩ (.int .i64 0)).setCell ⟨w.heap.size, 3, none⟩ (.slice none 0 0)) = wF at *
   obtain ⟨⟨q0, q1, q2, q3⟩, _⟩ := (Bx.four hbF)
   exact bodyPost_ret (v := .tuple #[.agg #[.int .i64 0, .int .i64 0, .int .i64 0, .slice none 0 0], .iface tE uE]) (by simp [results, Try.results12, go_sem, q0, q1, q2, q3]) rfl ⟨_, _, _, rfl, hEF⟩

set_option maxRecDepth 100000 in
set_option maxHeartbeats 1600000 in
theorem dec_many (xs : List Int) (A : Option Addr) (cap : Nat) (w : World) (c : Col) (S : List Nat) (hx0 : Rd u8 w c S (.slice A xs.length cap) xs) (hl : xs.length ≤ 1000000) (h7 : 7 ∉ S) (h : 10 ≤ xs.length) (y0 : xs[0]? = some 5) (y1 : xs[1]? = some 100) (x2 : Int) (y2 : xs[2]? = some x2) (hfit : fitsV (xs.take 10) = true) (n : Nat) (hn : x2 = n + 5) (hn2 : n ≤ 1000) (hs : sizeV n < xs.length) :
    Calls Try.prog 12 #[.slice A xs.length cap] w (DecBad w c) := by
  have hcc : xs.length ≤ cap := by obtain ⟨_, _, e, h⟩ := hx0.slice; injection e with _ _ e; omega
  have hE0 := Ext.alloc [] w c (.cells #[.int .i64 0, .int .i64 0, .int .i64 0, .slice none 0 0] 24) 9
  have hb0 := Bx.new w c 9 #[.int .i64 0, .int .i64 0, .int .i64 0, .slice none 0 0] 24
  have hx := hx0.ext hE0 (by simp)
  generalize hcz : cx c w.heap.size 9 = cz at *
  clear hcz
  obtain ⟨B, o', rfl⟩ := rd_addr hx0 (by omega)
  have z0 := rd_cellAt hx0 0 y0
  have z1 := rd_cellAt hx0 1 y1
  have z2 := rd_cellAt hx0 2 y2
  simp only [Nat.add_zero] at z0
  have hlB := World.block_lt_of_cell? w _ z0
  simp only at hlB
  obtain ⟨A10, hcut10, hrd10⟩ := Sk.cut_h (P := Try.prog) Wire.u8 22 5 _ _ Try.underlying22 info_u8 (some ⟨B, o', none⟩) xs.length cap .i64 (10 : Int) 10 rfl (by omega) hcc
  have hr10 := hrd10 _ cz S xs hx
  have ht10 : (xs.take 10).length = 10 := by rw [List.length_take]; omega
  clear hrd10
  have d10 : decide ((xs.length : Int) < 10) = false := decide_eq_false (by omega)
  have HN := Lib.hid hn
  have HN2 := Lib.hid hn2
  have d2 : decide (x2 < 5) = false := decide_eq_false (by omega)
  have hx2 : IntKind.i64.wrap x2 = x2 := i64id (by omega) (by omega)
  clear hn hn2
  have ds : decide ((xs.length : Int) < (sizeV n : Nat)) = false := decide_eq_false (by omega)
  have ds2 : decide (((sizeV n : Nat) : Int) < xs.length) = true := decide_eq_true (by omega)
  have hsn : ¬ xs.length < sizeV n := by omega
  clear hx0
  go_enter Try.func12, Try.ntmps12
  go_wp2_with (first
    | (go_at_call 32
       have htok := hE0
       clear htok
       have hQ := fits_calls (xs.take 10) A10 cap (w.alloc (.cells #[.int .i64 0, .int .i64 0, .int .i64 0, .slice none 0 0] 24)) cz S (by rw [ht10]; exact hr10) (by omega) (by omega)
       rw [ht10, hfit] at hQ
       refine (hQ).mono ?_
       rintro e w1 ⟨c1, rfl, he⟩
       have hE1 := hE0.trans he
       replace hb0 := hb0.ext he (by simp)
       replace hx := hx.ext he (by simp)
       clear hQ hr10
       have zz2 := rd_cellAt hx 2 y2
       clear z0 z1 z2
       clear hE0 he)
    | (go_at_call 33
       have htok := hE1
       clear htok
       refine (size_calls x2 n HN.out HN2.out w1 c1).mono ?_
       rintro e w2 ⟨rfl, he⟩
       have hE2 := hE1.trans he
       replace hb0 := hb0.ext he (by simp)
       replace hx := hx.ext he (by simp)
       have zz3 := rd_cellAt hx 2 y2
       clear zz2
       clear hE1 he)
    | (go_at_call 33
       have htok := hE2
       clear htok
       refine (size_calls x2 n HN.out HN2.out w2 c1).mono ?_
       rintro e w3 ⟨rfl, he⟩
       have hE3 := hE2.trans he
       replace hb0 := hb0.ext he (by simp)
       replace hx := hx.ext he (by simp)
       have zz4 := rd_cellAt hx 2 y2
       clear zz3
       clear hE2 he)
    | (go_at_call 26
       have htok := hE3
       clear htok
       refine (lin_calls _ _ w3 c1).mono ?_
       rintro e wE ⟨tE, uE, cE, rfl, he⟩
       have hEE := hE3.trans he
       replace hb0 := hb0.ext he (by simp)
       skip
       obtain ⟨⟨k0, k1, k2, k3⟩, f0, f1, f2, f3⟩ := (Bx.four hb0)
       clear hE3 he))
  all_goals
   obtain ⟨hbF, hE4, hB4⟩ := Bx.set4 hb0 (.int .i64 0) (.int .i64 0) (.int .i64 0) (.slice none 0 0)
   have hEF := hEE.later (Nat.le_refl _) hB4 (fun _ _ => rfl)
   generalize ((((wE.setCell ⟨w.heap.size, 0, none⟩ (.int .i64 0)).setCell ⟨w.heap.size, 1, none⟩ (.int .i64 0)).setCell ⟨w.heap.size, 2, none⟩ (.int .i64 0)).setCell ⟨w.heap.size, 3, none⟩ (.slice none 0 0)) = wF at *
   obtain ⟨⟨q0, q1, q2, q3⟩, _⟩ := (Bx.four hbF)
   exact bodyPost_ret (v := .tuple #[.agg #[.int .i64 0, .int .i64 0, .int .i64 0, .slice none 0 0], .iface tE uE]) (by simp [results, Try.results12, go_sem, q0, q1, q2, q3]) rfl ⟨_, _, _, rfl, hEF⟩

set_option maxRecDepth 100000 in
set_option maxHeartbeats 1600000 in
theorem dec_bad (xs : List Int) (A : Option Addr) (cap : Nat) (w : World) (c : Col) (S : List Nat) (hx0 : Rd u8 w c S (.slice A xs.length cap) xs) (hl : xs.length ≤ 1000000) (h7 : 7 ∉ S) (h : 10 ≤ xs.length) (y0 : xs[0]? = some 5) (y1 : xs[1]? = some 100) (x2 : Int) (y2 : xs[2]? = some x2) (hfit : fitsV (xs.take 10) = true) (n : Nat) (hn : x2 = n + 5) (hn2 : n ≤ 1000) (hn3 : n ≤ 250) (hs : xs.length = sizeV n) (hbad : 0 ≤ (dataF xs).2) :
    Calls Try.prog 12 #[.slice A xs.length cap] w (DecBad w c) := by
  have hcc : xs.length ≤ cap := by obtain ⟨_, _, e, h⟩ := hx0.slice; injection e with _ _ e; omega
  have hE0 := Ext.alloc [] w c (.cells #[.int .i64 0, .int .i64 0, .int .i64 0, .slice none 0 0] 24) 9
  have hb0 := Bx.new w c 9 #[.int .i64 0, .int .i64 0, .int .i64 0, .slice none 0 0] 24
  have hx := hx0.ext hE0 (by simp)
  generalize hcz : cx c w.heap.size 9 = cz at *
  clear hcz
  obtain ⟨B, o', rfl⟩ := rd_addr hx0 (by omega)
  have z0 := rd_cellAt hx0 0 y0
  have z1 := rd_cellAt hx0 1 y1
  have z2 := rd_cellAt hx0 2 y2
  simp only [Nat.add_zero] at z0
  have hlB := World.block_lt_of_cell? w _ z0
  simp only at hlB
  obtain ⟨A10, hcut10, hrd10⟩ := Sk.cut_h (P := Try.prog) Wire.u8 22 5 _ _ Try.underlying22 info_u8 (some ⟨B, o', none⟩) xs.length cap .i64 (10 : Int) 10 rfl (by omega) hcc
  have hr10 := hrd10 _ cz S xs hx
  have ht10 : (xs.take 10).length = 10 := by rw [List.length_take]; omega
  clear hrd10
  have d10 : decide ((xs.length : Int) < 10) = false := decide_eq_false (by omega)
  have HN := Lib.hid hn
  have HN2 := Lib.hid hn2
  have d2 : decide (x2 < 5) = false := decide_eq_false (by omega)
  have hx2 : IntKind.i64.wrap x2 = x2 := i64id (by omega) (by omega)
  clear hn hn2
  have ds : decide ((xs.length : Int) < (sizeV n : Nat)) = false := decide_eq_false (by omega)
  have ds2 : decide (((sizeV n : Nat) : Int) < xs.length) = false := decide_eq_false (by omega)
  have hsn : ¬ xs.length < sizeV n := by omega
  have hsn2 : ¬ sizeV n < xs.length := by omega
  have hsm := size_mod n hn3
  rw [← hs] at hsm
  obtain ⟨m1, m2, m3⟩ := hsm
  have HM := Lib.hid m3
  clear hx0 hs m3 hn3
  have db : decide (0 ≤ (dataF xs).2) = true := decide_eq_true hbad
  clear hbad
  go_enter Try.func12, Try.ntmps12
  go_wp2_with (first
    | (go_at_call 32
       have htok := hE0
       clear htok
       have hQ := fits_calls (xs.take 10) A10 cap (w.alloc (.cells #[.int .i64 0, .int .i64 0, .int .i64 0, .slice none 0 0] 24)) cz S (by rw [ht10]; exact hr10) (by omega) (by omega)
       rw [ht10, hfit] at hQ
       refine (hQ).mono ?_
       rintro e w1 ⟨c1, rfl, he⟩
       have hE1 := hE0.trans he
       replace hb0 := hb0.ext he (by simp)
       replace hx := hx.ext he (by simp)
       clear hQ hr10
       have zz2 := rd_cellAt hx 2 y2
       clear z0 z1 z2
       clear hE0 he)
    | (go_at_call 33
       have htok := hE1
       clear htok
       refine (size_calls x2 n HN.out HN2.out w1 c1).mono ?_
       rintro e w2 ⟨rfl, he⟩
       have hE2 := hE1.trans he
       replace hb0 := hb0.ext he (by simp)
       replace hx := hx.ext he (by simp)
       have zz3 := rd_cellAt hx 2 y2
       clear zz2
       clear hE1 he)
    | (go_at_call 33
       have htok := hE2
       clear htok
       refine (size_calls x2 n HN.out HN2.out w2 c1).mono ?_
       rintro e w3 ⟨rfl, he⟩
       have hE3 := hE2.trans he
       replace hb0 := hb0.ext he (by simp)
       replace hx := hx.ext he (by simp)
       have zz4 := rd_cellAt hx 2 y2
       clear zz3
       clear hE2 he)
    | (go_at_call 34
       have htok := hE3
       clear htok
       have hQ := data_calls xs _ cap w3 c1 S h7 hx (by omega) (by omega) HM.out
       unfold DataP at hQ
       generalize (dataF xs).2 = bad at *
       refine (hQ).mono ?_
       rintro e w4 ⟨vd, c4, rfl, ho, he⟩
       have hE4 := hE3.trans he
       replace hb0 := hb0.ext he (by simp)
       replace hx := hx.ext he (by simp)
       clear hQ zz4
       clear he)
    | (go_at_call 26
       have htok := hE4
       clear htok
       refine (lin_calls _ _ w4 c4).mono ?_
       rintro e wE ⟨tE, uE, cE, rfl, he⟩
       have hEE := hE4.trans he
       replace hb0 := hb0.ext he (by simp)
       skip
       obtain ⟨⟨k0, k1, k2, k3⟩, f0, f1, f2, f3⟩ := (Bx.four hb0)
       clear hE4 he))
  all_goals
   obtain ⟨hbF, hE4, hB4⟩ := Bx.set4 hb0 (.int .i64 0) (.int .i64 0) (.int .i64 0) (.slice none 0 0)
   have hEF := hEE.later (Nat.le_refl _) hB4 (fun _ _ => rfl)
   generalize ((((wE.setCell ⟨w.heap.size, 0, none⟩ (.int .i64 0)).setCell ⟨w.heap.size, 1, none⟩ (.int .i64 0)).setCell ⟨w.heap.size, 2, none⟩ (.int .i64 0)).setCell ⟨w.heap.size, 3, none⟩ (.slice none 0 0)) = wF at *
   obtain ⟨⟨q0, q1, q2, q3⟩, _⟩ := (Bx.four hbF)
   exact bodyPost_ret (v := .tuple #[.agg #[.int .i64 0, .int .i64 0, .int .i64 0, .slice none 0 0], .iface tE uE]) (by simp [results, Try.results12, go_sem, q0, q1, q2, q3]) rfl ⟨_, _, _, rfl, hEF⟩

set_option maxRecDepth 100000 in
set_option maxHeartbeats 1600000 in
theorem dec_ok (xs : List Int) (A : Option Addr) (cap : Nat) (w : World) (c : Col) (S : List Nat) (hx0 : Rd u8 w c S (.slice A xs.length cap) xs) (hl : xs.length ≤ 1000000) (h7 : 7 ∉ S) (h : 10 ≤ xs.length) (y0 : xs[0]? = some 5) (y1 : xs[1]? = some 100) (x2 : Int) (y2 : xs[2]? = some x2) (hfit : fitsV (xs.take 10) = true) (n : Nat) (hn : x2 = n + 5) (hn2 : n ≤ 1000) (hn3 : n ≤ 250) (hs : xs.length = sizeV n) (hbad : (dataF xs).2 < 0) (x3 : Int) (y3 : xs[3]? = some x3) (x4 : Int) (y4 : xs[4]? = some x4) (x5 : Int) (y5 : xs[5]? = some x5) (x6 : Int) (y6 : xs[6]? = some x6) (x7 : Int) (y7 : xs[7]? = some x7) :
    Calls Try.prog 12 #[.slice A xs.length cap] w (DecOk ⟨x3, x4 + 256 * x5, x6 + 256 * x7, (dataF xs).1⟩ w c) := by
  have hcc : xs.length ≤ cap := by obtain ⟨_, _, e, h⟩ := hx0.slice; injection e with _ _ e; omega
  have hE0 := Ext.alloc [] w c (.cells #[.int .i64 0, .int .i64 0, .int .i64 0, .slice none 0 0] 24) 9
  have hb0 := Bx.new w c 9 #[.int .i64 0, .int .i64 0, .int .i64 0, .slice none 0 0] 24
  have hx := hx0.ext hE0 (by simp)
  generalize hcz : cx c w.heap.size 9 = cz at *
  clear hcz
  obtain ⟨B, o', rfl⟩ := rd_addr hx0 (by omega)
  have z0 := rd_cellAt hx0 0 y0
  have z1 := rd_cellAt hx0 1 y1
  have z2 := rd_cellAt hx0 2 y2
  simp only [Nat.add_zero] at z0
  have hlB := World.block_lt_of_cell? w _ z0
  simp only at hlB
  obtain ⟨A10, hcut10, hrd10⟩ := Sk.cut_h (P := Try.prog) Wire.u8 22 5 _ _ Try.underlying22 info_u8 (some ⟨B, o', none⟩) xs.length cap .i64 (10 : Int) 10 rfl (by omega) hcc
  have hr10 := hrd10 _ cz S xs hx
  have ht10 : (xs.take 10).length = 10 := by rw [List.length_take]; omega
  clear hrd10
  have d10 : decide ((xs.length : Int) < 10) = false := decide_eq_false (by omega)
  have HN := Lib.hid hn
  have HN2 := Lib.hid hn2
  have d2 : decide (x2 < 5) = false := decide_eq_false (by omega)
  have hx2 : IntKind.i64.wrap x2 = x2 := i64id (by omega) (by omega)
  clear hn hn2
  have ds : decide ((xs.length : Int) < (sizeV n : Nat)) = false := decide_eq_false (by omega)
  have ds2 : decide (((sizeV n : Nat) : Int) < xs.length) = false := decide_eq_false (by omega)
  have hsn : ¬ xs.length < sizeV n := by omega
  have hsn2 : ¬ sizeV n < xs.length := by omega
  have hsm := size_mod n hn3
  rw [← hs] at hsm
  obtain ⟨m1, m2, m3⟩ := hsm
  have HM := Lib.hid m3
  clear hx0 hs m3 hn3
  have db : decide (0 ≤ (dataF xs).2) = false := decide_eq_false (by omega)
  clear hbad
  go_enter Try.func12, Try.ntmps12
  go_wp2_with (first
    | (go_at_call 32
       have htok := hE0
       clear htok
       have hQ := fits_calls (xs.take 10) A10 cap (w.alloc (.cells #[.int .i64 0, .int .i64 0, .int .i64 0, .slice none 0 0] 24)) cz S (by rw [ht10]; exact hr10) (by omega) (by omega)
       rw [ht10, hfit] at hQ
       refine (hQ).mono ?_
       rintro e w1 ⟨c1, rfl, he⟩
       have hE1 := hE0.trans he
       replace hb0 := hb0.ext he (by simp)
       replace hx := hx.ext he (by simp)
       clear hQ hr10
       have zz2 := rd_cellAt hx 2 y2
       clear z0 z1 z2
       clear hE0 he)
    | (go_at_call 33
       have htok := hE1
       clear htok
       refine (size_calls x2 n HN.out HN2.out w1 c1).mono ?_
       rintro e w2 ⟨rfl, he⟩
       have hE2 := hE1.trans he
       replace hb0 := hb0.ext he (by simp)
       replace hx := hx.ext he (by simp)
       have zz3 := rd_cellAt hx 2 y2
       clear zz2
       clear hE1 he)
    | (go_at_call 33
       have htok := hE2
       clear htok
       refine (size_calls x2 n HN.out HN2.out w2 c1).mono ?_
       rintro e w3 ⟨rfl, he⟩
       have hE3 := hE2.trans he
       replace hb0 := hb0.ext he (by simp)
       replace hx := hx.ext he (by simp)
       have zz4 := rd_cellAt hx 2 y2
       clear zz3
       clear hE2 he)
    | (go_at_call 34
       have htok := hE3
       clear htok
       have hQ := data_calls xs _ cap w3 c1 S h7 hx (by omega) (by omega) HM.out
       unfold DataP at hQ
       generalize (dataF xs).2 = bad at *
       refine (hQ).mono ?_
       rintro e w4 ⟨vd, c4, rfl, ho, he⟩
       have hE4 := hE3.trans he
       replace hb0 := hb0.ext he (by simp)
       replace hx := hx.ext he (by simp)
       clear hQ zz4
       clear he))
  obtain ⟨⟨k0, k1, k2, k3⟩, f0, f1, f2, f3⟩ := (Bx.four hb0)
  have g3 := rd_cellAt hx 3 y3
  have g4 := rd_cellAt hx 4 y4
  have g5 := rd_cellAt hx 5 y5
  have g6 := rd_cellAt hx 6 y6
  have g7 := rd_cellAt hx 7 y7
  have l3 : (3 : Int) < xs.length := by omega
  have l4 : (4 : Int) < xs.length := by omega
  have l5 : (5 : Int) < xs.length := by omega
  have l6 : (6 : Int) < xs.length := by omega
  have l7 : (7 : Int) < xs.length := by omega
  obtain ⟨Ad, capd, rfl⟩ := ho.slice
  have hne1 : B ≠ w.heap.size := by omega
  have hne2 : w.heap.size ≠ B := by omega
  go_region_held3 (fun w' => w'.cell? ⟨B, o' + 3, none⟩ = some (.int .u8 x3) ∧ w'.cell? ⟨B, o' + 4, none⟩ = some (.int .u8 x4) ∧ w'.cell? ⟨B, o' + 5, none⟩ = some (.int .u8 x5) ∧ w'.cell? ⟨B, o' + 6, none⟩ = some (.int .u8 x6) ∧ w'.cell? ⟨B, o' + 7, none⟩ = some (.int .u8 x7)) (go_keep) (first | fail)
  have h8 := Rd.bytes8 hx
  have r3 := h8 x3 (List.mem_of_getElem? y3)
  have r4 := h8 x4 (List.mem_of_getElem? y4)
  have r5 := h8 x5 (List.mem_of_getElem? y5)
  have r6 := h8 x6 (List.mem_of_getElem? y6)
  have r7 := h8 x7 (List.mem_of_getElem? y7)
  have jn : ∀ x y : Int, 0 ≤ x ∧ x ≤ 255 → 0 ≤ y ∧ y ≤ 255 → Go.bits .or .i64 (IntKind.i64.wrap x) (IntKind.i64.wrap (IntKind.i64.wrap y * 256)) = x + 256 * y := by
    intro x y hx hy
    rw [i64id (x := x) (by omega) (by omega), i64id (x := y) (by omega) (by omega), i64id (x := y * 256) (by omega) (by omega)]
    have := or_hi 8 x y hx.1 (by omega) hy.1 (by omega) (by omega)
    rw [show (2 : Int) ^ 8 = 256 by rfl] at this
    rw [this, Int.mul_comm]
  have v3 : IntKind.i64.wrap x3 = x3 := i64id (by omega) (by omega)
  rw [v3, jn x4 x5 r4 r5, jn x6 x7 r6 r7]
  obtain ⟨hbF, hS4, hB4⟩ := Bx.set4 hb0 (.int .i64 x3) (.int .i64 (x4 + 256 * x5)) (.int .i64 (x6 + 256 * x7)) (.slice Ad (dataF xs).1.length capd)
  have hEF := (hE4.later (Nat.le_refl _) hB4 (fun _ _ => rfl)).drew
  have hoF := (ho.ext hS4 (by simp) (by simp)).ext ((Ext.refl [] _ c4).drew) (by simp) (by simp)
  have hb6 := hbF.ext ((Ext.refl [] _ c4).drew) (by simp)
  have hsz : w.heap.size ≤ w3.heap.size := hE3.size
  replace hoF := hoF.base (β' := w.heap.size) hsz
  clear k0 k1 k2 k3 f0 f1 f2 f3 g3 g4 g5 g6 g7 hb0 hbF hS4 hB4 ho hx
  generalize ((((w4.setCell ⟨w.heap.size, 0, none⟩ (.int .i64 x3)).setCell ⟨w.heap.size, 1, none⟩ (.int .i64 (x4 + 256 * x5))).setCell ⟨w.heap.size, 2, none⟩ (.int .i64 (x6 + 256 * x7))).setCell ⟨w.heap.size, 3, none⟩ (.slice Ad (dataF xs).1.length capd)).drew = wF at *
  obtain ⟨⟨q0, q1, q2, q3⟩, _⟩ := Bx.four hb6
  go_wp2
  exact bodyPost_ret (v := .tuple #[.agg #[.int .i64 x3, .int .i64 (x4 + 256 * x5), .int .i64 (x6 + 256 * x7), .slice Ad (dataF xs).1.length capd], .nilIface]) (by simp [results, Try.results12, go_sem, q0, q1, q2, q3]) rfl ⟨_, _, rfl, hoF, hEF⟩

end Go.Proofs.Ytkchcihglpcmiaa.Link
