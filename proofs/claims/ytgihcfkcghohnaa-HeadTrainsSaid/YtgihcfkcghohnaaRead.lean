/- Contracts of package wire's Reader, over this seat's translation. -/
import Derived.Test.YtgihcfkcghohnaaBase
namespace Go.Proofs.Ytgihcfkcghohnaa.Wire
open Go.RowKit Go.Proofs.Ytgihcfkcghohnaa.Sk Go.Proofs.Ytgihcfkcghohnaa.Num

/-- A reader at block g: its bytes, its place; all of the colour κ. -/
def Rdr (w : World) (c : Col) (κ g : Nat) (b : List Int) (at_ : Int) : Prop :=
  ∃ v, w.heap[g]? = some (.cells #[v, .int .i64 at_] 66 (0, 0)) ∧ c g = κ ∧ Rd u8 w c [κ] v b ∧ 0 ≤ at_ ∧ at_ ≤ b.length ∧ b.length ≤ 140737488355328
set_option maxRecDepth 100000 in
theorem Rdr.ext {w w' : World} {c c' : Col} {κ g : Nat} {b : List Int} {a : Int} {M : List Nat} (h : Rdr w c κ g b a) (he : Ext M w c w' c') (hM : κ ∉ M) : Rdr w' c' κ g b a := by
  obtain ⟨v, h1, h2, h3, h4⟩ := h
  have hg := (Array.getElem?_eq_some_iff.1 h1).1
  exact ⟨v, by rw [he.keep g hg (by rw [h2]; exact hM)]; exact h1, by rw [he.col g hg]; exact h2, h3.ext he (by simpa using hM), h4⟩
set_option maxHeartbeats 400000 in
set_option maxRecDepth 100000 in
theorem newReader_calls (xs : List Int) (v : Value) (w : World) (c : Col) (S : List Nat) (κ : Nat) (hx : Rd u8 w c S v xs) (hl : xs.length ≤ 140737488355328) :
    Calls Try.prog 22 #[v] w fun e w' => ∃ g c', e = .returned (.pointer (some ⟨g, 0, none⟩)) ∧ w.heap.size ≤ g ∧ Rdr w' c' κ g xs 0 ∧ Ext [] w c w' c' := by
  go_enter Try.func22, Try.ntmps22
  go_wp2_with (go_at_call 28; refine (clone_calls xs _ _ c S κ hx hl).mono ?_; rintro e w1 ⟨A1, cap1, c1, rfl, ho, he⟩)
  go_ret
  have hE := Ext.alloc [] w1 c1 (.cells #[.slice A1 xs.length cap1, .int .i64 0] 66) κ
  refine ⟨w1.heap.size, _, rfl, he.size, ⟨_, heap_alloc_new w1 _, cx_new (Nat.le_refl _), (ho.rd (by simp) (by simp)).ext hE (by simp), by simp, by simp, hl⟩, he.trans hE⟩
set_option maxHeartbeats 400000 in
set_option maxRecDepth 100000 in
theorem rfail_calls (g : Nat) (b : List Int) (a n : Int) (w : World) (c : Col) (κ κ' : Nat) (hr : Rdr w c κ g b a) :
    Calls Try.prog 32 #[.pointer (some ⟨g, 0, none⟩), .int .i64 n] w fun e w' => ∃ v' c', e = .returned v' ∧ EK w' c' [κ'] (.fail ⟨#[119, 105, 114, 101]⟩ a (.code n)) v' ∧ Ext [] w c w' c' := by
  obtain ⟨v, h1, h2, h3, h4⟩ := hr
  have hc := blkCell h1 1
  simp at hc
  go_enter Try.func32, Try.ntmps32
  go_wp2_with (go_at_call 15; refine (in_calls _ _ (.code n) _ _ c [κ'] κ' (by simp) rfl).mono ?_; rintro e w1 ⟨v1, c1, rfl, ho, he⟩)
  go_ret
  exact ⟨_, _, rfl, ho, he⟩
set_option maxHeartbeats 400000 in
set_option maxRecDepth 100000 in
theorem left_calls (g : Nat) (b : List Int) (a : Int) (w : World) (c : Col) (κ : Nat) (hr : Rdr w c κ g b a) :
    Calls Try.prog 34 #[.pointer (some ⟨g, 0, none⟩)] w fun e w' => e = .returned (.int .i64 (b.length - a)) ∧ ∃ n, w' = w.drewN n := by
  obtain ⟨v, h1, h2, h3, h4, h5, h6⟩ := hr
  obtain ⟨A, cap, rfl, _⟩ := h3.slice
  have hc0 := blkCell h1 0
  have hc1 := blkCell h1 1
  simp at hc0 hc1
  go_enter Try.func34, Try.ntmps34
  go_wp2
  go_quiet (fail)
  go_wp2
  go_ret
  exact ⟨rfl, _, rfl⟩
set_option maxHeartbeats 400000 in
theorem place_calls (g : Nat) (b : List Int) (a : Int) (w : World) (c : Col) (κ : Nat) (hr : Rdr w c κ g b a) :
    Calls Try.prog 24 #[.pointer (some ⟨g, 0, none⟩)] w fun e w' => e = .returned (.int .i64 a) ∧ w = w' := by
  obtain ⟨v, h1, h2, h3, h4, h5⟩ := hr
  have hc1 := blkCell h1 1
  simp at hc1
  go_enter Try.func24, Try.ntmps24
  go_wp2
  go_ret
  exact ⟨rfl, rfl⟩
set_option maxHeartbeats 400000 in
set_option maxRecDepth 100000 in
theorem take_short (g : Nat) (b : List Int) (a n : Int) (w : World) (c : Col) (κ κ' : Nat) (hr : Rdr w c κ g b a) (hn : b.length - a < n) :
    Calls Try.prog 33 #[.pointer (some ⟨g, 0, none⟩), .int .i64 n] w fun e w' => ∃ v' c', e = .returned (.tuple #[.slice none 0 0, v']) ∧ EK w' c' [κ'] (.fail ⟨#[119, 105, 114, 101]⟩ a (.code 2)) v' ∧ Ext [] w c w' c' := by
  have hd : decide ((b.length : Int) - a < n) = true := decide_eq_true hn
  go_enter Try.func33, Try.ntmps33
  go_wp2_with (first | (go_at_call 34; refine (left_calls g b a _ c κ hr).mono ?_; rintro e w1 ⟨rfl, nd, rfl⟩) | (go_at_call 32; refine (rfail_calls g b a _ _ c κ κ' (hr.ext ((Ext.refl [] _ _).drewN _) (by simp))).mono ?_; rintro e w2 ⟨v2, c2, rfl, ho2, he2⟩))
  go_ret2
  exact ⟨_, _, rfl, ho2, ((Ext.refl [] _ _).drewN _).trans he2⟩
/-- A store into a block whose cells are no numbers of this kind: a slice of such numbers stays. -/
theorem rd_set {k : IntKind} {w : World} {c : Col} {S : List Nat} {v : Value} {xs : List Int} (h : Rd (kint k) w c S v xs) {g : Nat} {cs : Array Value} {T : TypeId} (hg : w.heap[g]? = some (.cells cs T (0, 0)))
    (hno : ∀ (i : Nat) (x : Int), cs[i]? ≠ some (Value.int k x)) (i : Nat) (u : Value) : Rd (kint k) (w.setCell ⟨g, i, none⟩ u) c S v xs := by
  obtain ⟨A, cap, e, h1, h2, h3⟩ := h.form
  refine ⟨A, cap, e, h1, h2, fun hp => ?_⟩
  obtain ⟨b, o, ea, hb, hc, hx⟩ := h3 hp
  refine ⟨b, o, ea, by simpa using hb, hc, fun j x hj => ?_⟩
  obtain ⟨cs', hK, hcell⟩ := hx j x hj
  refine ⟨cs', hK, fun m u' hu => ?_⟩
  have hm := hcell m u' hu
  have hne : b ≠ g := by
    intro hbg
    subst hbg
    rw [blkCell hg, ] at hm
    have e1 : u' = .int k x := by
      have := hK.1
      rw [this] at hu
      have hm0 : m = 0 := by
        have := (List.getElem?_eq_some_iff.1 hu).1
        simpa using this
      subst hm0
      simpa using hu.symm
    rw [e1] at hm
    exact hno _ _ hm
  rw [World.cell?_of_block (Below.heap_setCell w ⟨g, i, none⟩ u b hne)]
  exact hm
set_option maxRecDepth 100000 in
theorem Rdr.drewN {w : World} {c : Col} {κ g : Nat} {b : List Int} {a : Int} (h : Rdr w c κ g b a) (n : Nat) : Rdr (w.drewN n) c κ g b a := h.ext ((Ext.refl [] _ _).drewN n) (by simp)
/-- A reader whose place is set. -/
theorem Rdr.set {w : World} {c : Col} {κ g : Nat} {b : List Int} {a : Int} (h : Rdr w c κ g b a) (a' : Int) (h0 : 0 ≤ a') (h1 : a' ≤ b.length) : Rdr (w.setCell ⟨g, 1, none⟩ (.int .i64 a')) c κ g b a' := by
  obtain ⟨v, e1, e2, e3, e4, e5, e6⟩ := h
  obtain ⟨A, cap, rfl, _⟩ := e3.slice
  have := blkSet e1 1 (.int .i64 a')
  refine ⟨_, by simpa using this, e2, rd_set e3 e1 (fun i x hi => ?_) 1 _, h0, h1, e6⟩
  match i, hi with
  | 0, hi => simp at hi
  | 1, hi => simp at hi
set_option maxHeartbeats 400000 in
set_option maxRecDepth 100000 in
theorem take_ok (g : Nat) (b : List Int) (a n : Int) (w : World) (c : Col) (κ κ' : Nat) (hr : Rdr w c κ g b a) (h0 : 0 ≤ n) (hn : n ≤ b.length - a) :
    Calls Try.prog 33 #[.pointer (some ⟨g, 0, none⟩), .int .i64 n] w fun e w' => ∃ A cap c', e = .returned (.tuple #[.slice A ((b.drop a.toNat).take n.toNat).length cap, .nilIface]) ∧
      Own u8 5 w' c' κ' [] w.heap.size (.slice A ((b.drop a.toNat).take n.toNat).length cap) ((b.drop a.toNat).take n.toNat) ∧ Rdr w' c' κ g b (a + n) ∧ Ext [κ] w c w' c' ∧ Below g w w' := by
  have hd : decide ((b.length : Int) - a < n) = false := decide_eq_false (by omega)
  obtain ⟨v, e1, e2, e3, e4, e5, e6⟩ := hr
  have hr : Rdr w c κ g b a := ⟨v, e1, e2, e3, e4, e5, e6⟩
  obtain ⟨A, cap, rfl, hcap⟩ := e3.slice
  have hc1 := blkCell e1 1
  have hf := blkFree e1 1
  simp at hc1
  have i1 : IntKind.i64.wrap (a + n) = a + n := IntWalk.i64_in _ (by omega)
  have hlen : (List.take n.toNat (List.drop a.toNat b)).length = n.toNat := by rw [List.length_take, List.length_drop]; omega
  generalize hxs : (b.drop a.toNat).take n.toNat = xs at *
  have HX := Lib.hid hxs
  have HL := Lib.hid hlen
  clear hxs hlen
  go_enter Try.func33, Try.ntmps33
  go_wp2_with (first | (go_at_call 34; refine (left_calls g b a _ c κ hr).mono ?_; rintro e w1 ⟨rfl, nd, rfl⟩))
  have hr2 := (hr.drewN nd).set (a + n) (by omega) (by omega)
  have hB : Below g w ((w.drewN nd).setCell ⟨g, 1, none⟩ (.int .i64 (a + n))) := (((Ext.refl [] w c).drewN nd).belowAll.mono (Nat.le_of_lt (blkLt e1))).setCell (Nat.le_refl _) _
  have hlt := blkLt e1
  have hX : Ext [κ] w c ((w.drewN nd).setCell ⟨g, 1, none⟩ (.int .i64 (a + n))) c := ((Ext.refl [κ] w c).drewN nd).trans (Ext.set (by simp [e2]) _)
  clear e1 e3 hc1 hf hr hd
  generalize (w.drewN nd).setCell ⟨g, 1, none⟩ (.int .i64 (a + n)) = w2 at *
  obtain ⟨v, e1, e2', e3, -, -, -⟩ := id hr2
  obtain ⟨A, cap, rfl, hcap⟩ := e3.slice
  have hc0 := blkCell e1 0
  have hc1 := blkCell e1 1
  simp at hc0 hc1
  have i2 : IntKind.i64.wrap a = a := IntWalk.i64_in _ (by omega)
  obtain ⟨A1, hcut, hrd⟩ := cut_lh (P := Try.prog) u8 24 5 _ _ Try.underlying24 info_u8 A b.length cap .i64 .i64 a (a + n) n.toNat e4 (by omega) (by omega) hcap
  have hrd := hrd w2 c [κ] b e3
  rw [HX.out] at hrd
  clear e1 i1
  go_still_tail 15, (by kernel_rfl)
  change wpList _ _ _ _ _ w2.drew
  have hX2 := hX.drew
  have hB2 := hB.drew
  have hr3 := hr2.ext (Ext.refl [] _ _).drew (by simp)
  have hrd := hrd.ext (Ext.refl [] _ _).drew (by simp)
  clear hc0 hc1 hcut i2 hX hr2 hB
  generalize w2.drew = w3 at *
  go_wp2_with (go_at_call 28; refine (clone_calls _ _ _ c [κ] κ' hrd (by rw [HL.out]; omega)).mono ?_; rintro e w4 ⟨A4, cap4, c4, rfl, ho, he⟩)
  go_ret2
  exact ⟨_, _, _, rfl, ho.base hX2.size, hr3.ext he (by simp), hX2.trans (he.mono (by simp)), hB2.trans (he.belowAll.mono (Nat.le_trans (Nat.le_of_lt hlt) hX2.size))⟩

set_option maxHeartbeats 400000 in
set_option maxRecDepth 100000 in
theorem number_calls (xs : List Int) (v : Value) (w : World) (c : Col) (S : List Nat) (hx : Rd u8 w c S v xs) (hl : xs.length ≤ 7) :
    Calls Try.prog 31 #[v] w fun e w' => e = .returned (.int .i64 (le xs)) ∧ w = w' := by
  obtain ⟨A, cap, rfl, hcap⟩ := hx.slice
  have hr := hx.range
  go_enter Try.func31, Try.ntmps31
  go_wp2
  go_loop [3, 4, 5, 8] (fun n _ _ i => ∃ k : Nat, k ≤ xs.length ∧ i = .int .i64 k ∧ n = .int .i64 (le (xs.take k))) (fun _ _ _ i => xs.length - (intOf i).toNat)
  case atStart => exact ⟨0, Nat.zero_le _, rfl, rfl⟩
  case round =>
    obtain ⟨k, hk, rfl, rfl⟩ := hrel
    by_cases hlt : k < xs.length
    · obtain ⟨b, o, cap', x, cs, e1, hc1, hxk, hK, hcell⟩ := hx.at (k : Int) (by omega) (by omega)
      have hcs := hK.1
      subst hcs
      have h2 := hcell 0 _ rfl
      injection e1 with e1 _ e3
      subst e1 e3
      simp [kint] at h2
      have hround := le_round (xs.take k) x (fun y hy => by have := hr y (List.mem_of_mem_take hy); simpa [IntKind.min, IntKind.max, IntKind.bits, IntKind.signed] using this) (by simpa [IntKind.min, IntKind.max, IntKind.bits, IntKind.signed] using hK.2) (by rw [List.length_take]; omega)
      rw [List.length_take, Nat.min_eq_left hk] at hround
      have hx0 : 0 ≤ x ∧ x ≤ 255 := by simpa [IntKind.min, IntKind.max, IntKind.bits, IntKind.signed] using hK.2
      have ht : xs.take (k + 1) = xs.take k ++ [x] := by rw [List.take_add_one]; simp at hxk; rw [hxk]; rfl
      have HT := Lib.hid ht
      have HR := Lib.hid hround
      clear ht hround
      go_wp2
      refine ⟨⟨k + 1, by omega, by go_num, ?_⟩, by simp [intOf]; omega⟩
      obtain ⟨q1, q2, q3⟩ := HR.out
      rw [HT.out, ← q1, w64 (by omega) q3]
    · go_wp2
      go_ret
      rw [List.take_of_length_le (by omega)]
      exact ⟨rfl, rfl⟩

set_option maxHeartbeats 400000 in
set_option maxRecDepth 100000 in
theorem field_bad (g : Nat) (b : List Int) (a n : Int) (w : World) (c : Col) (κ κ' : Nat) (hr : Rdr w c κ g b a) (hn : n < 1 ∨ 6 < n) :
    Calls Try.prog 30 #[.pointer (some ⟨g, 0, none⟩), .int .i64 n] w fun e w' => ∃ v' c', e = .returned (.tuple #[.slice none 0 0, v']) ∧ EK w' c' [κ'] (.fail ⟨#[119, 105, 114, 101]⟩ a (.code 1)) v' ∧ Ext [] w c w' c' := by
  by_cases h1 : n < 1
  · have d1 : decide (n < 1) = true := decide_eq_true h1
    go_enter Try.func30, Try.ntmps30
    go_wp2_with (go_at_call 32; refine (rfail_calls g b a _ _ c κ κ' hr).mono ?_; rintro e w2 ⟨v2, c2, rfl, ho2, he2⟩)
    go_ret2
    exact ⟨_, _, rfl, ho2, he2⟩
  · have d1 : decide (n < 1) = false := decide_eq_false h1
    have d2 : decide (6 < n) = true := decide_eq_true (by omega)
    go_enter Try.func30, Try.ntmps30
    go_wp2_with (go_at_call 32; refine (rfail_calls g b a _ _ c κ κ' hr).mono ?_; rintro e w2 ⟨v2, c2, rfl, ho2, he2⟩)
    go_ret2
    exact ⟨_, _, rfl, ho2, he2⟩
set_option maxHeartbeats 400000 in
set_option maxRecDepth 100000 in
theorem field_short (g : Nat) (b : List Int) (a n : Int) (w : World) (c : Col) (κ κ' : Nat) (hr : Rdr w c κ g b a) (h1 : 1 ≤ n) (h2 : n ≤ 6) (hn : b.length - a < n) :
    Calls Try.prog 30 #[.pointer (some ⟨g, 0, none⟩), .int .i64 n] w fun e w' => ∃ v' c', e = .returned (.tuple #[.slice none 0 0, v']) ∧ EK w' c' [κ'] (.fail ⟨#[119, 105, 114, 101]⟩ a (.code 2)) v' ∧ Ext [] w c w' c' := by
  have d1 : decide (n < 1) = false := decide_eq_false (by omega)
  have d2 : decide (6 < n) = false := decide_eq_false (by omega)
  go_enter Try.func30, Try.ntmps30
  go_wp2_with (go_at_call 33; refine (take_short g b a n _ c κ κ' hr hn).mono ?_; rintro e w2 ⟨v2, c2, rfl, ho2, he2⟩)
  go_ret2
  exact ⟨_, _, rfl, ho2, he2⟩
set_option maxHeartbeats 400000 in
set_option maxRecDepth 100000 in
theorem field_ok (g : Nat) (b : List Int) (a n : Int) (w : World) (c : Col) (κ κ' : Nat) (hr : Rdr w c κ g b a) (h1 : 1 ≤ n) (h2 : n ≤ 6) (hn : n ≤ b.length - a) :
    Calls Try.prog 30 #[.pointer (some ⟨g, 0, none⟩), .int .i64 n] w fun e w' => ∃ A cap c', e = .returned (.tuple #[.slice A n.toNat cap, .nilIface]) ∧
      Own u8 5 w' c' κ' [] w.heap.size (.slice A n.toNat cap) ((b.drop a.toNat).take n.toNat) ∧ Rdr w' c' κ g b (a + n) ∧ Ext [κ] w c w' c' ∧ Below g w w' := by
  have d1 : decide (n < 1) = false := decide_eq_false (by omega)
  have d2 : decide (6 < n) = false := decide_eq_false (by omega)
  have hl : ((b.drop a.toNat).take n.toNat).length = n.toNat := by rw [List.length_take, List.length_drop]; obtain ⟨_, _, _, _, _, _⟩ := hr; omega
  have ht := take_ok g b a n w c κ κ' hr (by omega) hn
  rw [hl] at ht
  have HT := Lib.hid ht
  clear hl ht
  go_enter Try.func30, Try.ntmps30
  go_wp2_with (go_at_call 33; refine HT.out.mono ?_; rintro e w2 ⟨A2, cap2, c2, rfl, ho2, hr2, he2, hb2⟩)
  go_ret2
  exact ⟨_, _, _, rfl, ho2, hr2, he2, hb2⟩
/-- What reading a number of n bytes, from a place, answers: the number (0 with an error), the error, the place behind it. -/
def rU (b : List Int) (a n : Int) : Int × Er × Int :=
  if n < 1 ∨ 6 < n then (0, .fail ⟨#[119, 105, 114, 101]⟩ a (.code 1), a)
  else if b.length - a < n then (0, .fail ⟨#[119, 105, 114, 101]⟩ a (.code 2), a)
  else (le ((b.drop a.toNat).take n.toNat), .nil, a + n)
set_option maxHeartbeats 400000 in
set_option maxRecDepth 100000 in
theorem u_calls (g : Nat) (b : List Int) (a n : Int) (w : World) (c : Col) (κ κ' : Nat) (hr : Rdr w c κ g b a) :
    Calls Try.prog 29 #[.pointer (some ⟨g, 0, none⟩), .int .i64 n] w fun e w' => ∃ v' c', e = .returned (.tuple #[.int .i64 (rU b a n).1, v']) ∧
      EK w' c' [κ'] (rU b a n).2.1 v' ∧ Rdr w' c' κ g b (rU b a n).2.2 ∧ Ext [κ] w c w' c' ∧ Below g w w' := by
  have hlt : g < w.heap.size := by obtain ⟨_, q, _⟩ := hr; exact blkLt q
  unfold rU
  by_cases h1 : n < 1 ∨ 6 < n
  · rw [if_pos h1]
    go_enter Try.func29, Try.ntmps29
    go_wp2_with (first | (go_at_call 30; refine (field_bad g b a n _ c κ κ' hr h1).mono ?_; rintro e w2 ⟨v2, c2, rfl, ho2, he2⟩) | (go_at_call 31; refine (number_calls [] _ _ c2 [] (Rd.nil _ _ _ _) (by simp)).mono ?_; rintro e w3 ⟨rfl, rfl⟩))
    go_ret2
    exact ⟨_, _, rfl, ho2, hr.ext he2 (by simp), he2.mono (by simp), he2.belowAll.mono (Nat.le_of_lt hlt)⟩
  · rw [if_neg h1]
    by_cases h2 : b.length - a < n
    · rw [if_pos h2]
      go_enter Try.func29, Try.ntmps29
      go_wp2_with (first | (go_at_call 30; refine (field_short g b a n _ c κ κ' hr (by omega) (by omega) h2).mono ?_; rintro e w2 ⟨v2, c2, rfl, ho2, he2⟩) | (go_at_call 31; refine (number_calls [] _ _ c2 [] (Rd.nil _ _ _ _) (by simp)).mono ?_; rintro e w3 ⟨rfl, rfl⟩))
      go_ret2
      exact ⟨_, _, rfl, ho2, hr.ext he2 (by simp), he2.mono (by simp), he2.belowAll.mono (Nat.le_of_lt hlt)⟩
    · rw [if_neg h2]
      have hl : ((b.drop a.toNat).take n.toNat).length ≤ 7 := by rw [List.length_take]; omega
      generalize hxs : (b.drop a.toNat).take n.toNat = xs at *
      have HX := Lib.hid hxs
      clear hxs
      have hf := field_ok g b a n w c κ κ' hr (by omega) (by omega) (by omega)
      rw [HX.out] at hf
      have HF := Lib.hid hf
      clear hf
      go_enter Try.func29, Try.ntmps29
      go_wp2_with (first | (go_at_call 30; refine HF.out.mono ?_; rintro e w2 ⟨A2, cap2, c2, rfl, ho2, hr2, he2, hb2⟩) | (go_at_call 31; refine (number_calls xs _ _ c2 [κ'] (ho2.rd (by simp) (by simp)) hl).mono ?_; rintro e w3 ⟨rfl, rfl⟩))
      go_ret2
      exact ⟨_, _, rfl, rfl, hr2, he2, hb2⟩
end Go.Proofs.Ytgihcfkcghohnaa.Wire
