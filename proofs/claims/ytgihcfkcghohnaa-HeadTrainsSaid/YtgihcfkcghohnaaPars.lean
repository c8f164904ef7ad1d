/- Contracts of head.number and head.Parse, over this seat's translation. -/
import Derived.Test.YtgihcfkcghohnaaHead
import Derived.RegionTactic
import Derived.BigRegion
namespace Go.Proofs.Ytgihcfkcghohnaa.Head
open Go.RowKit Go.Proofs.Ytgihcfkcghohnaa.Sk Go.Proofs.Ytgihcfkcghohnaa.Num Go.Proofs.Ytgihcfkcghohnaa.Wire

set_option maxHeartbeats 400000 in
theorem num_short (g : Nat) (b : List Int) (a n : Int) (w : World) (c : Col) (κ : Nat) (hr : Rdr w c κ g b a) (h1 : 1 ≤ n) (h2 : n ≤ 6) (hn : b.length - a < n) :
    Calls Try.prog 23 #[.pointer (some ⟨g, 0, none⟩), .int .i64 n] w fun e w' => ∃ t u c', e = .returned (.tuple #[.int .i64 0, .iface t u]) ∧ Ext [κ] w c w' c' ∧ Below g w w' := by
  have hc := u_calls g b a n w c κ κ hr
  have e1 : rU b a n = (0, .fail ⟨#[119, 105, 114, 101]⟩ a (.code 2), a) := by unfold rU; rw [if_neg (by omega), if_pos hn]
  rw [e1] at hc
  have HC := Lib.hid hc
  have h0 : (n == 0) = false := beq_eq_false_iff_ne.2 (by omega)
  clear hc e1
  go_enter Try.func23, Try.ntmps23
  go_wp2_with (go_at_call 29; refine HC.out.mono ?_; rintro e w1 ⟨v1, c1, rfl, ⟨g1, ve1, rfl, hx1⟩, hr1, he1, hb1⟩; clear hx1)
  go_ret2
  exact ⟨_, _, _, rfl, he1, hb1⟩
set_option maxHeartbeats 400000 in
theorem num_ok (g : Nat) (b : List Int) (a n : Int) (w : World) (c : Col) (κ : Nat) (hr : Rdr w c κ g b a) (h1 : 0 ≤ n) (h2 : n ≤ 6) (hn : n ≤ b.length - a) :
    Calls Try.prog 23 #[.pointer (some ⟨g, 0, none⟩), .int .i64 n] w fun e w' => ∃ c', e = .returned (.tuple #[.int .i64 (le ((b.drop a.toNat).take n.toNat)), .nilIface]) ∧ Rdr w' c' κ g b (a + n) ∧ Ext [κ] w c w' c' ∧ Below g w w' := by
  by_cases hz : n = 0
  · subst hz
    go_enter Try.func23, Try.ntmps23
    go_wp2
    go_ret2
    exact ⟨c, rfl, by rw [Int.add_zero]; exact hr, Ext.refl _ _ _, Below.refl _ _⟩
  · have hc := u_calls g b a n w c κ κ hr
    have e1 : rU b a n = (le ((b.drop a.toNat).take n.toNat), .nil, a + n) := by unfold rU; rw [if_neg (by omega), if_neg (by omega)]
    rw [e1] at hc
    generalize le ((b.drop a.toNat).take n.toNat) = x at *
    have HC := Lib.hid hc
    have h0 : (n == 0) = false := beq_eq_false_iff_ne.2 hz
    clear hc e1 hz
    go_enter Try.func23, Try.ntmps23
    go_wp2_with (go_at_call 29; refine HC.out.mono ?_; rintro e w1 ⟨v1, c1, rfl, rfl, hr1, he1, hb1⟩)
    go_ret2
    exact ⟨_, rfl, hr1, he1, hb1⟩
def Hdr.zero : Hdr := ⟨0, 0, 0, 0, 0, 0⟩
/-- What is behind a call of Parse that fails. -/
def ParseBad (k : Int) (a : Int) (w : World) (c : Col) (κ : Nat) (e : Ending) (w' : World) : Prop :=
  ∃ v' c', e = .returned (.tuple #[Hdr.zero.val, .int .i64 0, v']) ∧ EK w' c' [κ] (.fail ⟨#[104, 101, 97, 100]⟩ a (.code k)) v' ∧ Ext [] w c w' c'
set_option maxHeartbeats 400000 in
theorem parse_few (b : List Int) (a : Int) (v : Value) (w : World) (c : Col) (S : List Nat) (κ : Nat) (hx : Rd u8 w c S v b) (h : a < 0 ∨ b.length < a + 3) (ha : -9223372036854775808 ≤ a ∧ a ≤ 9223372036854775807) :
    Calls Try.prog 11 #[v, .int .i64 a] w (ParseBad 2 a w c κ) := by
  obtain ⟨A, cap, rfl, hcap⟩ := hx.slice
  have hE := Ext.alloc [] w c (.cells #[.int .i64 0, .int .i64 0, .int .i64 0, .int .i64 0, .int .i64 0, .int .i64 0] 23) (κ + 1)
  have hb0 := Bx.new w c (κ + 1) #[.int .i64 0, .int .i64 0, .int .i64 0, .int .i64 0, .int .i64 0, .int .i64 0] 23
  have hll := hx.length_le
  clear hx
  by_cases c1 : a < 0
  · have d1 : decide (a < 0) = true := decide_eq_true c1
    clear h
    go_enter Try.func11, Try.ntmps11
    go_wp2_with (go_at_call 15; refine (in_calls _ _ (.code 2) _ _ (cx c w.heap.size (κ + 1)) [κ] κ (by simp) rfl).mono ?_; rintro e w3 ⟨v3, c3, rfl, ho, he⟩; replace hb0 := hb0.ext he (by simp); obtain ⟨⟨k0, k1, k2, k3, k4, k5⟩, f0, f1, f2, f3, f4, f5⟩ := hb0.six'; obtain ⟨g3, ve3, rfl, hx3⟩ := id ho; clear hx3)
    obtain ⟨hbF, hE6, hB6⟩ := hb0.set6 (.int .i64 0) (.int .i64 0) (.int .i64 0) (.int .i64 0) (.int .i64 0) (.int .i64 0)
    have hEF := (hE.trans he).later (Nat.le_refl _) hB6 (fun _ _ => rfl)
    have hoF := ho.ext hE6 (by simp)
    generalize ((((((w3.setCell ⟨w.heap.size, 0, none⟩ (.int .i64 0)).setCell ⟨w.heap.size, 1, none⟩ (.int .i64 0)).setCell ⟨w.heap.size, 2, none⟩ (.int .i64 0)).setCell ⟨w.heap.size, 3, none⟩ (.int .i64 0)).setCell ⟨w.heap.size, 4, none⟩ (.int .i64 0)).setCell ⟨w.heap.size, 5, none⟩ (.int .i64 0)) = wF at *
    obtain ⟨q0, q1, q2, q3, q4, q5⟩ := hbF.six
    exact bodyPost_ret (v := .tuple #[.agg #[.int .i64 0, .int .i64 0, .int .i64 0, .int .i64 0, .int .i64 0, .int .i64 0], .int .i64 0, .iface 57 (.pointer (some ⟨g3, 0, none⟩))]) (by simp [results, Try.results11, go_sem, q0, q1, q2, q3, q4, q5]) rfl ⟨_, _, rfl, hoF, hEF⟩
  · have d1 : decide (a < 0) = false := decide_eq_false c1
    by_cases c2 : (b.length : Int) < a
    · have d2 : decide ((b.length : Int) < a) = true := decide_eq_true c2
      clear h
      go_enter Try.func11, Try.ntmps11
      go_wp2_with (go_at_call 15; refine (in_calls _ _ (.code 2) _ _ (cx c w.heap.size (κ + 1)) [κ] κ (by simp) rfl).mono ?_; rintro e w3 ⟨v3, c3, rfl, ho, he⟩; replace hb0 := hb0.ext he (by simp); obtain ⟨⟨k0, k1, k2, k3, k4, k5⟩, f0, f1, f2, f3, f4, f5⟩ := hb0.six'; obtain ⟨g3, ve3, rfl, hx3⟩ := id ho; clear hx3)
      obtain ⟨hbF, hE6, hB6⟩ := hb0.set6 (.int .i64 0) (.int .i64 0) (.int .i64 0) (.int .i64 0) (.int .i64 0) (.int .i64 0)
      have hEF := (hE.trans he).later (Nat.le_refl _) hB6 (fun _ _ => rfl)
      have hoF := ho.ext hE6 (by simp)
      generalize ((((((w3.setCell ⟨w.heap.size, 0, none⟩ (.int .i64 0)).setCell ⟨w.heap.size, 1, none⟩ (.int .i64 0)).setCell ⟨w.heap.size, 2, none⟩ (.int .i64 0)).setCell ⟨w.heap.size, 3, none⟩ (.int .i64 0)).setCell ⟨w.heap.size, 4, none⟩ (.int .i64 0)).setCell ⟨w.heap.size, 5, none⟩ (.int .i64 0)) = wF at *
      obtain ⟨q0, q1, q2, q3, q4, q5⟩ := hbF.six
      exact bodyPost_ret (v := .tuple #[.agg #[.int .i64 0, .int .i64 0, .int .i64 0, .int .i64 0, .int .i64 0, .int .i64 0], .int .i64 0, .iface 57 (.pointer (some ⟨g3, 0, none⟩))]) (by simp [results, Try.results11, go_sem, q0, q1, q2, q3, q4, q5]) rfl ⟨_, _, rfl, hoF, hEF⟩
    · have d2 : decide ((b.length : Int) < a) = false := decide_eq_false c2
      have d3 : decide ((b.length : Int) - a < 3) = true := decide_eq_true (by omega)
      clear h
      go_enter Try.func11, Try.ntmps11
      go_wp2_with (go_at_call 15; refine (in_calls _ _ (.code 2) _ _ (cx c w.heap.size (κ + 1)) [κ] κ (by simp) rfl).mono ?_; rintro e w3 ⟨v3, c3, rfl, ho, he⟩; replace hb0 := hb0.ext he (by simp); obtain ⟨⟨k0, k1, k2, k3, k4, k5⟩, f0, f1, f2, f3, f4, f5⟩ := hb0.six'; obtain ⟨g3, ve3, rfl, hx3⟩ := id ho; clear hx3)
      obtain ⟨hbF, hE6, hB6⟩ := hb0.set6 (.int .i64 0) (.int .i64 0) (.int .i64 0) (.int .i64 0) (.int .i64 0) (.int .i64 0)
      have hEF := (hE.trans he).later (Nat.le_refl _) hB6 (fun _ _ => rfl)
      have hoF := ho.ext hE6 (by simp)
      generalize ((((((w3.setCell ⟨w.heap.size, 0, none⟩ (.int .i64 0)).setCell ⟨w.heap.size, 1, none⟩ (.int .i64 0)).setCell ⟨w.heap.size, 2, none⟩ (.int .i64 0)).setCell ⟨w.heap.size, 3, none⟩ (.int .i64 0)).setCell ⟨w.heap.size, 4, none⟩ (.int .i64 0)).setCell ⟨w.heap.size, 5, none⟩ (.int .i64 0)) = wF at *
      obtain ⟨q0, q1, q2, q3, q4, q5⟩ := hbF.six
      exact bodyPost_ret (v := .tuple #[.agg #[.int .i64 0, .int .i64 0, .int .i64 0, .int .i64 0, .int .i64 0, .int .i64 0], .int .i64 0, .iface 57 (.pointer (some ⟨g3, 0, none⟩))]) (by simp [results, Try.results11, go_sem, q0, q1, q2, q3, q4, q5]) rfl ⟨_, _, rfl, hoF, hEF⟩
/-- Three bytes at a place. -/
structure At3 (b : List Int) (a g v q : Int) : Prop where
  a0 : 0 ≤ a
  a1 : a + 3 ≤ b.length
  g : b[a.toNat]? = some g
  v : b[a.toNat + 1]? = some v
  q : b[a.toNat + 2]? = some q
theorem At3.cells {b : List Int} {a g v q : Int} (h : At3 b a g v q) {w : World} {c : Col} {S : List Nat} {V : Value} (hx : Rd u8 w c S V b) :
    ∃ B o cap, V = .slice (some ⟨B, o, none⟩) b.length cap ∧ b.length ≤ cap ∧ w.cell? ⟨B, o + a.toNat, none⟩ = some (.int .u8 g) ∧ w.cell? ⟨B, o + (a + 1).toNat, none⟩ = some (.int .u8 v) ∧ w.cell? ⟨B, o + (a + 2).toNat, none⟩ = some (.int .u8 q) ∧
      (0 ≤ g ∧ g ≤ 255) ∧ (0 ≤ v ∧ v ≤ 255) ∧ 0 ≤ q ∧ q ≤ 255 := by
  obtain ⟨h0, h1, hg, hv, hq⟩ := h
  obtain ⟨A, cap, e, e1, e2, h3⟩ := hx.form
  obtain ⟨B, o, rfl, hB, hS, hc⟩ := h3 (by omega)
  have one : ∀ (j : Nat) (x : Int), b[j]? = some x → w.cell? ⟨B, o + j, none⟩ = some (.int .u8 x) := by
    intro j x hj
    obtain ⟨cs, hK, hcs⟩ := hc j x hj
    have e3 := hK.1
    subst e3
    have := hcs 0 _ rfl
    simpa [kint] using this
  have e1' : (a + 1).toNat = a.toNat + 1 := by omega
  have e2' : (a + 2).toNat = a.toNat + 2 := by omega
  refine ⟨B, o, cap, e, e1, one _ _ hg, by rw [e1']; exact one _ _ hv, by rw [e2']; exact one _ _ hq, ?_, ?_, ?_⟩
  · exact rngu8 (hx.range _ (List.mem_of_getElem? hg))
  · exact rngu8 (hx.range _ (List.mem_of_getElem? hv))
  · exact rngu8 (hx.range _ (List.mem_of_getElem? hq))
set_option maxHeartbeats 1600000 in
theorem parse_kind (b : List Int) (a g v q : Int) (V : Value) (w : World) (c : Col) (S : List Nat) (κ : Nat) (hx : Rd u8 w c S V b) (hl : b.length ≤ 140737488355328) (h : At3 b a g v q) (hq : (widthV q).2.2 = false) :
    Calls Try.prog 11 #[V, .int .i64 a] w (ParseBad 6 a w c κ) := by
  obtain ⟨B, o, cap, rfl, hcap, hc0, hc1, hc2, ⟨hg0, hg1⟩, ⟨hv0, hv1⟩, hq0, hq1⟩ := h.cells hx
  obtain ⟨h0, h1, -, -, -⟩ := h
  have d1 : decide (a < 0) = false := decide_eq_false (by omega)
  have d2 : decide ((b.length : Int) < a) = false := decide_eq_false (by omega)
  have d3 : decide ((b.length : Int) - a < 3) = false := decide_eq_false (by omega)
  have hlB := World.block_lt_of_cell? w _ hc0
  simp only at hlB
  have hwid := width_calls q
  rw [hq] at hwid
  generalize (widthV q).1 = k at *
  generalize (widthV q).2.1 = k' at *
  have HW := Lib.hid hwid
  clear hwid hq hx
  go_enter Try.func11, Try.ntmps11
  go_wp2
  go_region
  obtain ⟨c2, hbz, hbh, hE⟩ := Bx.two w c (κ + 1) (κ + 2) #[.int .i64 0, .int .i64 0, .int .i64 0, .int .i64 0, .int .i64 0, .int .i64 0] #[.int .i64 g, .int .i64 v, .int .i64 q, .int .i64 0, .int .i64 0, .int .i64 0] 23 23
  have hz : w.heap.size < w.heap.size + 1 := by omega
  generalize ((w.alloc (.cells #[.int .i64 0, .int .i64 0, .int .i64 0, .int .i64 0, .int .i64 0, .int .i64 0] 23)).alloc (.cells #[.int .i64 g, .int .i64 v, .int .i64 q, .int .i64 0, .int .i64 0, .int .i64 0] 23)).drew = W2 at *
  clear hc0 hc1 hc2 hlB
  obtain ⟨k0, k1, k2, k3, k4, k5⟩ := hbh.six
  go_wp2_with (first
    | (go_at_call 14; refine (HW.out _).mono ?_; rintro e w' ⟨rfl, rfl⟩)
    | (go_at_call 15; refine (in_calls _ _ (.code 6) _ _ c2 [κ] κ (by simp) rfl).mono ?_; rintro e w3 ⟨v3, c3, rfl, ho, he⟩; replace hbz := hbz.ext he (by simp); clear k0 k1 k2 k3 k4 k5; obtain ⟨⟨k0, k1, k2, k3, k4, k5⟩, f0, f1, f2, f3, f4, f5⟩ := hbz.six'; obtain ⟨g3, ve3, rfl, hx3⟩ := id ho; clear hx3))
  obtain ⟨hbF, hE6, hB6⟩ := hbz.set6 (.int .i64 0) (.int .i64 0) (.int .i64 0) (.int .i64 0) (.int .i64 0) (.int .i64 0)
  have hEF := (hE.trans he).later (Nat.le_refl _) hB6 (fun _ _ => rfl)
  have hoF := ho.ext hE6 (by simp)
  generalize ((((((w3.setCell ⟨w.heap.size, 0, none⟩ (.int .i64 0)).setCell ⟨w.heap.size, 1, none⟩ (.int .i64 0)).setCell ⟨w.heap.size, 2, none⟩ (.int .i64 0)).setCell ⟨w.heap.size, 3, none⟩ (.int .i64 0)).setCell ⟨w.heap.size, 4, none⟩ (.int .i64 0)).setCell ⟨w.heap.size, 5, none⟩ (.int .i64 0)) = wF at *
  obtain ⟨q0, q1, q2, q3, q4, q5⟩ := hbF.six
  exact bodyPost_ret (v := .tuple #[.agg #[.int .i64 0, .int .i64 0, .int .i64 0, .int .i64 0, .int .i64 0, .int .i64 0], .int .i64 0, .iface 57 (.pointer (some ⟨g3, 0, none⟩))]) (by simp [results, Try.results11, go_sem, q0, q1, q2, q3, q4, q5]) rfl ⟨_, _, rfl, hoF, hEF⟩
end Go.Proofs.Ytgihcfkcghohnaa.Head
