/- Chapter 14: what is pending. -/
import Derived.Test.YtkchcihglpcmiaaLnk6
namespace Go.Proofs.Ytkchcihglpcmiaa.Link
open Go.RowKit Go.Proofs.Ytkchcihglpcmiaa.Sk Go.Proofs.Ytkchcihglpcmiaa.Num Go.Proofs.Ytkchcihglpcmiaa.Wire Go.Proofs.Ytkchcihglpcmiaa.PLk
open Go.Proofs.YtkchcihglpcmiaaW.PrintWords Go.Proofs.YtkchcihglpcmiaaW.PrintLast Go.Proofs.YtkchcihglpcmiaaW.PrintMore

/-- What the pending bytes are: 0 wait, 1 lose, 2 a whole frame of so many. -/
def lookV (b : List Int) : Int × Nat :=
  if b.length = 0 then (0, 0)
  else if ¬ (b.getD 0 0 = 5 ∧ (1 < b.length → b.getD 1 0 = 100)) then (1, 0)
  else if b.length < 10 then (0, 0)
  else if fitsV (b.take 10) = false then (1, 0)
  else if b.getD 2 0 < 5 then (1, 0)
  else if b.length < sizeV (b.getD 2 0 - 5).toNat then (0, 0)
  else if (dataF (b.take (sizeV (b.getD 2 0 - 5).toNat))).2 ≥ 0 then (1, 0)
  else (2, sizeV (b.getD 2 0 - 5).toNat)
def LookP (x : Int) (n : Nat) (w : World) (c : Col) (e : Ending) (w' : World) : Prop := ∃ c', e = .returned (.tuple #[.int .i64 x, .int .i64 n]) ∧ Ext [] w c w' c'

set_option maxRecDepth 100000 in
set_option maxHeartbeats 1600000 in
theorem lk_empty (g κ : Nat) (xs : List Int) (A : Option Addr) (cap : Nat) (lost : Int) (w : World) (c : Col) (S : List Nat) (hb : Bx w c κ g #[.slice A xs.length cap, .int .i64 lost] 69) (hx : Rd u8 w c S (.slice A xs.length cap) xs) (hl : xs.length ≤ 1000000) (h7 : 7 ∉ S) (h : xs.length = 0) :
    Calls Try.prog 37 #[.pointer (some ⟨g, 0, none⟩)] w (LookP 0 0 w c) := by
  have hcc : xs.length ≤ cap := by obtain ⟨_, _, e, h⟩ := hx.slice; injection e with _ _ e; omega
  have hE0 := Ext.refl [] w c
  have s0 : w.cell? ⟨g, 0, none⟩ = some (.slice A xs.length cap) := hb.cell 0
  clear hb
  have d0 : ((xs.length : Int) == 0) = true := by simp [h]
  clear hx
  go_enter Try.func37, Try.ntmps37
  go_wp2
  go_ret2
  exact ⟨_, rfl, hE0⟩

set_option maxRecDepth 100000 in
set_option maxHeartbeats 1600000 in
theorem lk_lose0 (g κ : Nat) (xs : List Int) (A : Option Addr) (cap : Nat) (lost : Int) (w : World) (c : Col) (S : List Nat) (hb : Bx w c κ g #[.slice A xs.length cap, .int .i64 lost] 69) (hx : Rd u8 w c S (.slice A xs.length cap) xs) (hl : xs.length ≤ 1000000) (h7 : 7 ∉ S) (h : 1 ≤ xs.length) (x0 : Int) (y0 : xs[0]? = some x0) (h0 : x0 ≠ 5) :
    Calls Try.prog 37 #[.pointer (some ⟨g, 0, none⟩)] w (LookP 1 0 w c) := by
  have hcc : xs.length ≤ cap := by obtain ⟨_, _, e, h⟩ := hx.slice; injection e with _ _ e; omega
  have hE0 := Ext.refl [] w c
  have s0 : w.cell? ⟨g, 0, none⟩ = some (.slice A xs.length cap) := hb.cell 0
  clear hb
  obtain ⟨B, o', rfl⟩ := rd_addr hx (by omega)
  have z0 := rd_cellAt hx 0 y0
  simp only [Nat.add_zero] at z0
  have d0 : ((xs.length : Int) == 0) = false := beq_eq_false_iff_ne.2 (by omega)
  clear hx
  go_enter Try.func37, Try.ntmps37
  go_wp2
  go_ret2
  exact ⟨_, rfl, hE0⟩

set_option maxRecDepth 100000 in
set_option maxHeartbeats 1600000 in
theorem lk_lose1 (g κ : Nat) (xs : List Int) (A : Option Addr) (cap : Nat) (lost : Int) (w : World) (c : Col) (S : List Nat) (hb : Bx w c κ g #[.slice A xs.length cap, .int .i64 lost] 69) (hx : Rd u8 w c S (.slice A xs.length cap) xs) (hl : xs.length ≤ 1000000) (h7 : 7 ∉ S) (h : 2 ≤ xs.length) (y0 : xs[0]? = some 5) (x1 : Int) (y1 : xs[1]? = some x1) (h1 : x1 ≠ 100) :
    Calls Try.prog 37 #[.pointer (some ⟨g, 0, none⟩)] w (LookP 1 0 w c) := by
  have hcc : xs.length ≤ cap := by obtain ⟨_, _, e, h⟩ := hx.slice; injection e with _ _ e; omega
  have hE0 := Ext.refl [] w c
  have s0 : w.cell? ⟨g, 0, none⟩ = some (.slice A xs.length cap) := hb.cell 0
  clear hb
  obtain ⟨B, o', rfl⟩ := rd_addr hx (by omega)
  have z0 := rd_cellAt hx 0 y0
  have z1 := rd_cellAt hx 1 y1
  simp only [Nat.add_zero] at z0
  have d0 : ((xs.length : Int) == 0) = false := beq_eq_false_iff_ne.2 (by omega)
  have d1 : decide ((1 : Int) < xs.length) = true := decide_eq_true (by omega)
  clear hx
  go_enter Try.func37, Try.ntmps37
  go_wp2
  go_ret2
  exact ⟨_, rfl, hE0⟩

set_option maxRecDepth 100000 in
set_option maxHeartbeats 1600000 in
theorem lk_one (g κ : Nat) (xs : List Int) (A : Option Addr) (cap : Nat) (lost : Int) (w : World) (c : Col) (S : List Nat) (hb : Bx w c κ g #[.slice A xs.length cap, .int .i64 lost] 69) (hx : Rd u8 w c S (.slice A xs.length cap) xs) (hl : xs.length ≤ 1000000) (h7 : 7 ∉ S) (h : xs.length = 1) (y0 : xs[0]? = some 5) :
    Calls Try.prog 37 #[.pointer (some ⟨g, 0, none⟩)] w (LookP 0 0 w c) := by
  have hcc : xs.length ≤ cap := by obtain ⟨_, _, e, h⟩ := hx.slice; injection e with _ _ e; omega
  have hE0 := Ext.refl [] w c
  have s0 : w.cell? ⟨g, 0, none⟩ = some (.slice A xs.length cap) := hb.cell 0
  clear hb
  obtain ⟨B, o', rfl⟩ := rd_addr hx (by omega)
  have z0 := rd_cellAt hx 0 y0
  simp only [Nat.add_zero] at z0
  have d0 : ((xs.length : Int) == 0) = false := beq_eq_false_iff_ne.2 (by omega)
  have d1 : decide ((1 : Int) < xs.length) = false := decide_eq_false (by omega)
  have d2 : decide ((xs.length : Int) < 10) = true := decide_eq_true (by omega)
  have h1 : 1 ≤ xs.length := by omega
  clear hx h
  go_enter Try.func37, Try.ntmps37
  go_wp2
  go_ret2
  exact ⟨_, rfl, hE0⟩

set_option maxRecDepth 100000 in
set_option maxHeartbeats 1600000 in
theorem lk_few (g κ : Nat) (xs : List Int) (A : Option Addr) (cap : Nat) (lost : Int) (w : World) (c : Col) (S : List Nat) (hb : Bx w c κ g #[.slice A xs.length cap, .int .i64 lost] 69) (hx : Rd u8 w c S (.slice A xs.length cap) xs) (hl : xs.length ≤ 1000000) (h7 : 7 ∉ S) (h : 2 ≤ xs.length) (hh : xs.length < 10) (y0 : xs[0]? = some 5) (y1 : xs[1]? = some 100) :
    Calls Try.prog 37 #[.pointer (some ⟨g, 0, none⟩)] w (LookP 0 0 w c) := by
  have hcc : xs.length ≤ cap := by obtain ⟨_, _, e, h⟩ := hx.slice; injection e with _ _ e; omega
  have hE0 := Ext.refl [] w c
  have s0 : w.cell? ⟨g, 0, none⟩ = some (.slice A xs.length cap) := hb.cell 0
  clear hb
  obtain ⟨B, o', rfl⟩ := rd_addr hx (by omega)
  have z0 := rd_cellAt hx 0 y0
  have z1 := rd_cellAt hx 1 y1
  simp only [Nat.add_zero] at z0
  have d0 : ((xs.length : Int) == 0) = false := beq_eq_false_iff_ne.2 (by omega)
  have d1 : decide ((1 : Int) < xs.length) = true := decide_eq_true (by omega)
  have d2 : decide ((xs.length : Int) < 10) = true := decide_eq_true (by omega)
  clear hx
  go_enter Try.func37, Try.ntmps37
  go_wp2
  go_ret2
  exact ⟨_, rfl, hE0⟩

set_option maxRecDepth 100000 in
set_option maxHeartbeats 1600000 in
theorem lk_sum (g κ : Nat) (xs : List Int) (A : Option Addr) (cap : Nat) (lost : Int) (w : World) (c : Col) (S : List Nat) (hb : Bx w c κ g #[.slice A xs.length cap, .int .i64 lost] 69) (hx : Rd u8 w c S (.slice A xs.length cap) xs) (hl : xs.length ≤ 1000000) (h7 : 7 ∉ S) (h : 10 ≤ xs.length) (y0 : xs[0]? = some 5) (y1 : xs[1]? = some 100) (x2 : Int) (y2 : xs[2]? = some x2) (hfit : fitsV (xs.take 10) = false) :
    Calls Try.prog 37 #[.pointer (some ⟨g, 0, none⟩)] w (LookP 1 0 w c) := by
  have hcc : xs.length ≤ cap := by obtain ⟨_, _, e, h⟩ := hx.slice; injection e with _ _ e; omega
  have hE0 := Ext.refl [] w c
  have s0 : w.cell? ⟨g, 0, none⟩ = some (.slice A xs.length cap) := hb.cell 0
  clear hb
  obtain ⟨B, o', rfl⟩ := rd_addr hx (by omega)
  have z0 := rd_cellAt hx 0 y0
  have z1 := rd_cellAt hx 1 y1
  have z2 := rd_cellAt hx 2 y2
  simp only [Nat.add_zero] at z0
  obtain ⟨A10, hcut10, hrd10⟩ := Sk.cut_h (P := Try.prog) Wire.u8 22 5 _ _ Try.underlying22 info_u8 (some ⟨B, o', none⟩) xs.length cap .i64 (10 : Int) 10 rfl (by omega) hcc
  have hr10 := hrd10 _ c S xs hx
  have ht10 : (xs.take 10).length = 10 := by rw [List.length_take]; omega
  clear hrd10
  have d0 : ((xs.length : Int) == 0) = false := beq_eq_false_iff_ne.2 (by omega)
  have d1 : decide ((1 : Int) < xs.length) = true := decide_eq_true (by omega)
  have d2 : decide ((xs.length : Int) < 10) = false := decide_eq_false (by omega)
  go_enter Try.func37, Try.ntmps37
  go_wp2_with (first
    | (go_at_call 32
       have htok := hE0
       clear htok
       have hQ := fits_calls (xs.take 10) A10 cap w c S (by rw [ht10]; exact hr10) (by omega) (by omega)
       rw [ht10, hfit] at hQ
       refine (hQ).mono ?_
       rintro e w1 ⟨c1, rfl, he⟩
       have hE1 := hE0.trans he
       replace hx := hx.ext he (by simp)
       clear hQ hr10
       have zz2 := rd_cellAt hx 2 y2
       clear z0 z1 z2 s0
       clear hE0 he))
  go_ret2
  exact ⟨_, rfl, hE1⟩

set_option maxRecDepth 100000 in
set_option maxHeartbeats 1600000 in
theorem lk_least (g κ : Nat) (xs : List Int) (A : Option Addr) (cap : Nat) (lost : Int) (w : World) (c : Col) (S : List Nat) (hb : Bx w c κ g #[.slice A xs.length cap, .int .i64 lost] 69) (hx : Rd u8 w c S (.slice A xs.length cap) xs) (hl : xs.length ≤ 1000000) (h7 : 7 ∉ S) (h : 10 ≤ xs.length) (y0 : xs[0]? = some 5) (y1 : xs[1]? = some 100) (x2 : Int) (y2 : xs[2]? = some x2) (hfit : fitsV (xs.take 10) = true) (h2 : x2 < 5) :
    Calls Try.prog 37 #[.pointer (some ⟨g, 0, none⟩)] w (LookP 1 0 w c) := by
  have hcc : xs.length ≤ cap := by obtain ⟨_, _, e, h⟩ := hx.slice; injection e with _ _ e; omega
  have hE0 := Ext.refl [] w c
  have s0 : w.cell? ⟨g, 0, none⟩ = some (.slice A xs.length cap) := hb.cell 0
  clear hb
  obtain ⟨B, o', rfl⟩ := rd_addr hx (by omega)
  have z0 := rd_cellAt hx 0 y0
  have z1 := rd_cellAt hx 1 y1
  have z2 := rd_cellAt hx 2 y2
  simp only [Nat.add_zero] at z0
  obtain ⟨A10, hcut10, hrd10⟩ := Sk.cut_h (P := Try.prog) Wire.u8 22 5 _ _ Try.underlying22 info_u8 (some ⟨B, o', none⟩) xs.length cap .i64 (10 : Int) 10 rfl (by omega) hcc
  have hr10 := hrd10 _ c S xs hx
  have ht10 : (xs.take 10).length = 10 := by rw [List.length_take]; omega
  clear hrd10
  have d0 : ((xs.length : Int) == 0) = false := beq_eq_false_iff_ne.2 (by omega)
  have d1 : decide ((1 : Int) < xs.length) = true := decide_eq_true (by omega)
  have d2 : decide ((xs.length : Int) < 10) = false := decide_eq_false (by omega)
  have d3 : decide (x2 < 5) = true := decide_eq_true h2
  go_enter Try.func37, Try.ntmps37
  go_wp2_with (first
    | (go_at_call 32
       have htok := hE0
       clear htok
       have hQ := fits_calls (xs.take 10) A10 cap w c S (by rw [ht10]; exact hr10) (by omega) (by omega)
       rw [ht10, hfit] at hQ
       refine (hQ).mono ?_
       rintro e w1 ⟨c1, rfl, he⟩
       have hE1 := hE0.trans he
       replace hx := hx.ext he (by simp)
       clear hQ hr10
       have zz2 := rd_cellAt hx 2 y2
       clear z0 z1 z2 s0
       clear hE0 he))
  go_ret2
  exact ⟨_, rfl, hE1⟩

set_option maxRecDepth 100000 in
set_option maxHeartbeats 1600000 in
theorem lk_wait (g κ : Nat) (xs : List Int) (A : Option Addr) (cap : Nat) (lost : Int) (w : World) (c : Col) (S : List Nat) (hb : Bx w c κ g #[.slice A xs.length cap, .int .i64 lost] 69) (hx : Rd u8 w c S (.slice A xs.length cap) xs) (hl : xs.length ≤ 1000000) (h7 : 7 ∉ S) (h : 10 ≤ xs.length) (y0 : xs[0]? = some 5) (y1 : xs[1]? = some 100) (x2 : Int) (y2 : xs[2]? = some x2) (hfit : fitsV (xs.take 10) = true) (n : Nat) (hn : x2 = n + 5) (hn2 : n ≤ 250) (hs : xs.length < sizeV n) :
    Calls Try.prog 37 #[.pointer (some ⟨g, 0, none⟩)] w (LookP 0 0 w c) := by
  have hcc : xs.length ≤ cap := by obtain ⟨_, _, e, h⟩ := hx.slice; injection e with _ _ e; omega
  have hE0 := Ext.refl [] w c
  have s0 : w.cell? ⟨g, 0, none⟩ = some (.slice A xs.length cap) := hb.cell 0
  clear hb
  obtain ⟨B, o', rfl⟩ := rd_addr hx (by omega)
  have z0 := rd_cellAt hx 0 y0
  have z1 := rd_cellAt hx 1 y1
  have z2 := rd_cellAt hx 2 y2
  simp only [Nat.add_zero] at z0
  obtain ⟨A10, hcut10, hrd10⟩ := Sk.cut_h (P := Try.prog) Wire.u8 22 5 _ _ Try.underlying22 info_u8 (some ⟨B, o', none⟩) xs.length cap .i64 (10 : Int) 10 rfl (by omega) hcc
  have hr10 := hrd10 _ c S xs hx
  have ht10 : (xs.take 10).length = 10 := by rw [List.length_take]; omega
  clear hrd10
  have d0 : ((xs.length : Int) == 0) = false := beq_eq_false_iff_ne.2 (by omega)
  have d1 : decide ((1 : Int) < xs.length) = true := decide_eq_true (by omega)
  have d2 : decide ((xs.length : Int) < 10) = false := decide_eq_false (by omega)
  have HN := Lib.hid hn
  have HN2 := Lib.hid hn2
  have d3 : decide (x2 < 5) = false := decide_eq_false (by omega)
  have hx2 : IntKind.i64.wrap x2 = x2 := i64id (by omega) (by omega)
  clear hn hn2
  go_enter Try.func37, Try.ntmps37
  go_wp2_with (first
    | (go_at_call 32
       have htok := hE0
       clear htok
       have hQ := fits_calls (xs.take 10) A10 cap w c S (by rw [ht10]; exact hr10) (by omega) (by omega)
       rw [ht10, hfit] at hQ
       refine (hQ).mono ?_
       rintro e w1 ⟨c1, rfl, he⟩
       have hE1 := hE0.trans he
       replace hx := hx.ext he (by simp)
       clear hQ hr10
       have zz2 := rd_cellAt hx 2 y2
       clear z0 z1 z2 s0
       clear hE0 he)
    | (go_at_call 33
       have htok := hE1
       clear htok
       refine (size_calls x2 n HN.out (by have := HN2.out; omega) w1 c1).mono ?_
       rintro e w2 ⟨rfl, he⟩
       have hE2 := hE1.trans he
       replace hx := hx.ext he (by simp)
       clear zz2
       clear hE1 he))
  go_ret2
  exact ⟨_, rfl, hE2⟩

set_option maxRecDepth 100000 in
set_option maxHeartbeats 1600000 in
theorem lk_bad (g κ : Nat) (xs : List Int) (A : Option Addr) (cap : Nat) (lost : Int) (w : World) (c : Col) (S : List Nat) (hb : Bx w c κ g #[.slice A xs.length cap, .int .i64 lost] 69) (hx : Rd u8 w c S (.slice A xs.length cap) xs) (hl : xs.length ≤ 1000000) (h7 : 7 ∉ S) (h : 10 ≤ xs.length) (y0 : xs[0]? = some 5) (y1 : xs[1]? = some 100) (x2 : Int) (y2 : xs[2]? = some x2) (hfit : fitsV (xs.take 10) = true) (n : Nat) (hn : x2 = n + 5) (hn2 : n ≤ 250) (hs : sizeV n ≤ xs.length) (hbad : 0 ≤ (dataF (xs.take (sizeV n))).2) :
    Calls Try.prog 37 #[.pointer (some ⟨g, 0, none⟩)] w (LookP 1 0 w c) := by
  have hcc : xs.length ≤ cap := by obtain ⟨_, _, e, h⟩ := hx.slice; injection e with _ _ e; omega
  have hE0 := Ext.refl [] w c
  have s0 : w.cell? ⟨g, 0, none⟩ = some (.slice A xs.length cap) := hb.cell 0
  clear hb
  obtain ⟨B, o', rfl⟩ := rd_addr hx (by omega)
  have z0 := rd_cellAt hx 0 y0
  have z1 := rd_cellAt hx 1 y1
  have z2 := rd_cellAt hx 2 y2
  simp only [Nat.add_zero] at z0
  obtain ⟨A10, hcut10, hrd10⟩ := Sk.cut_h (P := Try.prog) Wire.u8 22 5 _ _ Try.underlying22 info_u8 (some ⟨B, o', none⟩) xs.length cap .i64 (10 : Int) 10 rfl (by omega) hcc
  have hr10 := hrd10 _ c S xs hx
  have ht10 : (xs.take 10).length = 10 := by rw [List.length_take]; omega
  clear hrd10
  have d0 : ((xs.length : Int) == 0) = false := beq_eq_false_iff_ne.2 (by omega)
  have d1 : decide ((1 : Int) < xs.length) = true := decide_eq_true (by omega)
  have d2 : decide ((xs.length : Int) < 10) = false := decide_eq_false (by omega)
  have HN := Lib.hid hn
  have HN2 := Lib.hid hn2
  have d3 : decide (x2 < 5) = false := decide_eq_false (by omega)
  have hx2 : IntKind.i64.wrap x2 = x2 := i64id (by omega) (by omega)
  clear hn hn2
  have hsm := size_mod n HN2.out
  obtain ⟨m1, m2, m3⟩ := hsm
  obtain ⟨A5, hcut5, hrd5⟩ := Sk.cut_h (P := Try.prog) Wire.u8 22 5 _ _ Try.underlying22 info_u8 (some ⟨B, o', none⟩) xs.length cap .i64 ((sizeV n : Nat) : Int) (sizeV n) rfl (by omega) hcc
  have ht5 : (xs.take (sizeV n)).length = sizeV n := by rw [List.length_take]; omega
  have hsn : ¬ xs.length < sizeV n := by omega
  have H5 := Lib.hid hrd5
  have M1 := Lib.hid m1
  have M2 := Lib.hid m2
  have M3 := Lib.hid m3
  clear hrd5 m1 m2 m3 hs
  have db : decide (0 ≤ (dataF (xs.take (sizeV n))).2) = true := decide_eq_true hbad
  clear hbad
  go_enter Try.func37, Try.ntmps37
  go_wp2_with (first
    | (go_at_call 32
       have htok := hE0
       clear htok
       have hQ := fits_calls (xs.take 10) A10 cap w c S (by rw [ht10]; exact hr10) (by omega) (by omega)
       rw [ht10, hfit] at hQ
       refine (hQ).mono ?_
       rintro e w1 ⟨c1, rfl, he⟩
       have hE1 := hE0.trans he
       replace hx := hx.ext he (by simp)
       clear hQ hr10
       have zz2 := rd_cellAt hx 2 y2
       clear z0 z1 z2 s0
       clear hE0 he)
    | (go_at_call 33
       have htok := hE1
       clear htok
       refine (size_calls x2 n HN.out (by have := HN2.out; omega) w1 c1).mono ?_
       rintro e w2 ⟨rfl, he⟩
       have hE2 := hE1.trans he
       replace hx := hx.ext he (by simp)
       clear zz2
       clear hE1 he)
    | (go_at_call 34
       have htok := hE2
       clear htok
       have hr5 := H5.out w2 c1 S xs hx
       have hQ := data_calls (xs.take (sizeV n)) A5 cap w2 c1 S h7 (by rw [ht5]; exact hr5) (by rw [ht5]; exact M1.out) (by rw [ht5]; have := M2.out; omega) (by rw [ht5]; exact M3.out)
       unfold DataP at hQ
       rw [ht5] at hQ
       generalize (dataF (xs.take (sizeV n))).2 = bad at *
       refine (hQ).mono ?_
       rintro e w3 ⟨vd, c3, rfl, ho, he⟩
       have hE3 := hE2.trans he
       clear ho hQ hr5
       skip
       clear hE2 he))
  go_ret2
  exact ⟨_, rfl, hE3⟩

set_option maxRecDepth 100000 in
set_option maxHeartbeats 1600000 in
theorem lk_whole (g κ : Nat) (xs : List Int) (A : Option Addr) (cap : Nat) (lost : Int) (w : World) (c : Col) (S : List Nat) (hb : Bx w c κ g #[.slice A xs.length cap, .int .i64 lost] 69) (hx : Rd u8 w c S (.slice A xs.length cap) xs) (hl : xs.length ≤ 1000000) (h7 : 7 ∉ S) (h : 10 ≤ xs.length) (y0 : xs[0]? = some 5) (y1 : xs[1]? = some 100) (x2 : Int) (y2 : xs[2]? = some x2) (hfit : fitsV (xs.take 10) = true) (n : Nat) (hn : x2 = n + 5) (hn2 : n ≤ 250) (hs : sizeV n ≤ xs.length) (hbad : (dataF (xs.take (sizeV n))).2 < 0) :
    Calls Try.prog 37 #[.pointer (some ⟨g, 0, none⟩)] w (LookP 2 (sizeV n) w c) := by
  have hcc : xs.length ≤ cap := by obtain ⟨_, _, e, h⟩ := hx.slice; injection e with _ _ e; omega
  have hE0 := Ext.refl [] w c
  have s0 : w.cell? ⟨g, 0, none⟩ = some (.slice A xs.length cap) := hb.cell 0
  clear hb
  obtain ⟨B, o', rfl⟩ := rd_addr hx (by omega)
  have z0 := rd_cellAt hx 0 y0
  have z1 := rd_cellAt hx 1 y1
  have z2 := rd_cellAt hx 2 y2
  simp only [Nat.add_zero] at z0
  obtain ⟨A10, hcut10, hrd10⟩ := Sk.cut_h (P := Try.prog) Wire.u8 22 5 _ _ Try.underlying22 info_u8 (some ⟨B, o', none⟩) xs.length cap .i64 (10 : Int) 10 rfl (by omega) hcc
  have hr10 := hrd10 _ c S xs hx
  have ht10 : (xs.take 10).length = 10 := by rw [List.length_take]; omega
  clear hrd10
  have d0 : ((xs.length : Int) == 0) = false := beq_eq_false_iff_ne.2 (by omega)
  have d1 : decide ((1 : Int) < xs.length) = true := decide_eq_true (by omega)
  have d2 : decide ((xs.length : Int) < 10) = false := decide_eq_false (by omega)
  have HN := Lib.hid hn
  have HN2 := Lib.hid hn2
  have d3 : decide (x2 < 5) = false := decide_eq_false (by omega)
  have hx2 : IntKind.i64.wrap x2 = x2 := i64id (by omega) (by omega)
  clear hn hn2
  have hsm := size_mod n HN2.out
  obtain ⟨m1, m2, m3⟩ := hsm
  obtain ⟨A5, hcut5, hrd5⟩ := Sk.cut_h (P := Try.prog) Wire.u8 22 5 _ _ Try.underlying22 info_u8 (some ⟨B, o', none⟩) xs.length cap .i64 ((sizeV n : Nat) : Int) (sizeV n) rfl (by omega) hcc
  have ht5 : (xs.take (sizeV n)).length = sizeV n := by rw [List.length_take]; omega
  have hsn : ¬ xs.length < sizeV n := by omega
  have H5 := Lib.hid hrd5
  have M1 := Lib.hid m1
  have M2 := Lib.hid m2
  have M3 := Lib.hid m3
  clear hrd5 m1 m2 m3 hs
  have db : decide (0 ≤ (dataF (xs.take (sizeV n))).2) = false := decide_eq_false (by omega)
  clear hbad
  go_enter Try.func37, Try.ntmps37
  go_wp2_with (first
    | (go_at_call 32
       have htok := hE0
       clear htok
       have hQ := fits_calls (xs.take 10) A10 cap w c S (by rw [ht10]; exact hr10) (by omega) (by omega)
       rw [ht10, hfit] at hQ
       refine (hQ).mono ?_
       rintro e w1 ⟨c1, rfl, he⟩
       have hE1 := hE0.trans he
       replace hx := hx.ext he (by simp)
       clear hQ hr10
       have zz2 := rd_cellAt hx 2 y2
       clear z0 z1 z2 s0
       clear hE0 he)
    | (go_at_call 33
       have htok := hE1
       clear htok
       refine (size_calls x2 n HN.out (by have := HN2.out; omega) w1 c1).mono ?_
       rintro e w2 ⟨rfl, he⟩
       have hE2 := hE1.trans he
       replace hx := hx.ext he (by simp)
       clear zz2
       clear hE1 he)
    | (go_at_call 34
       have htok := hE2
       clear htok
       have hr5 := H5.out w2 c1 S xs hx
       have hQ := data_calls (xs.take (sizeV n)) A5 cap w2 c1 S h7 (by rw [ht5]; exact hr5) (by rw [ht5]; exact M1.out) (by rw [ht5]; have := M2.out; omega) (by rw [ht5]; exact M3.out)
       unfold DataP at hQ
       rw [ht5] at hQ
       generalize (dataF (xs.take (sizeV n))).2 = bad at *
       refine (hQ).mono ?_
       rintro e w3 ⟨vd, c3, rfl, ho, he⟩
       have hE3 := hE2.trans he
       clear ho hQ hr5
       skip
       clear hE2 he))
  go_ret2
  exact ⟨_, rfl, hE3⟩

theorem look_calls (g κ : Nat) (xs : List Int) (A : Option Addr) (cap : Nat) (lost : Int) (w : World) (c : Col) (S : List Nat) (hb : Bx w c κ g #[.slice A xs.length cap, .int .i64 lost] 69) (hx : Rd u8 w c S (.slice A xs.length cap) xs) (hl : xs.length ≤ 1000000) (h7 : 7 ∉ S) :
    Calls Try.prog 37 #[.pointer (some ⟨g, 0, none⟩)] w (LookP (lookV xs).1 (lookV xs).2 w c) := by
  by_cases h0 : xs.length = 0
  · have e : lookV xs = (0, 0) := by unfold lookV; rw [if_pos h0]
    rw [e]; exact lk_empty g κ xs A cap lost w c S hb hx hl h7 h0
  have get : ∀ i, i < xs.length → xs[i]? = some (xs.getD i 0) := fun i hi => by
    rw [List.getD_eq_getElem?_getD, List.getElem?_eq_getElem (by omega)]; rfl
  by_cases hf : xs.getD 0 0 = 5 ∧ (1 < xs.length → xs.getD 1 0 = 100)
  case neg =>
    have e : lookV xs = (1, 0) := by unfold lookV; rw [if_neg h0, if_pos hf]
    rw [e]
    by_cases h5 : xs.getD 0 0 = 5
    · have h1 : 1 < xs.length ∧ xs.getD 1 0 ≠ 100 := by
        refine ⟨?_, ?_⟩
        · apply Classical.byContradiction; intro hh; exact hf ⟨h5, fun h => absurd h hh⟩
        · intro hh; exact hf ⟨h5, fun _ => hh⟩
      exact lk_lose1 g κ xs A cap lost w c S hb hx hl h7 (by omega) (by rw [get 0 (by omega), h5]) _ (get 1 (by omega)) h1.2
    · exact lk_lose0 g κ xs A cap lost w c S hb hx hl h7 (by omega) _ (get 0 (by omega)) h5
  have y0 : xs[0]? = some 5 := by rw [get 0 (by omega), hf.1]
  have hnf : ¬ ¬ (xs.getD 0 0 = 5 ∧ (1 < xs.length → xs.getD 1 0 = 100)) := fun h => h hf
  by_cases h10 : xs.length < 10
  · have e : lookV xs = (0, 0) := by unfold lookV; rw [if_neg h0, if_neg hnf, if_pos h10]
    rw [e]
    by_cases h1 : xs.length = 1
    · exact lk_one g κ xs A cap lost w c S hb hx hl h7 h1 y0
    · exact lk_few g κ xs A cap lost w c S hb hx hl h7 (by omega) h10 y0 (by rw [get 1 (by omega), hf.2 (by omega)])
  have y1 : xs[1]? = some 100 := by rw [get 1 (by omega), hf.2 (by omega)]
  have y2 := get 2 (by omega)
  by_cases hs : fitsV (xs.take 10) = false
  · have e : lookV xs = (1, 0) := by unfold lookV; rw [if_neg h0, if_neg hnf, if_neg h10, if_pos hs]
    rw [e]; exact lk_sum g κ xs A cap lost w c S hb hx hl h7 (by omega) y0 y1 _ y2 hs
  have hs' : fitsV (xs.take 10) = true := by simpa using hs
  have r2 := Rd.bytes8 hx _ (List.mem_of_getElem? y2)
  by_cases h2 : xs.getD 2 0 < 5
  · have e : lookV xs = (1, 0) := by unfold lookV; rw [if_neg h0, if_neg hnf, if_neg h10, if_neg hs, if_pos h2]
    rw [e]; exact lk_least g κ xs A cap lost w c S hb hx hl h7 (by omega) y0 y1 _ y2 hs' h2
  have hn : xs.getD 2 0 = ((xs.getD 2 0 - 5).toNat : Nat) + 5 := by omega
  have hn2 : (xs.getD 2 0 - 5).toNat ≤ 250 := by omega
  by_cases h3 : xs.length < sizeV (xs.getD 2 0 - 5).toNat
  · have e : lookV xs = (0, 0) := by unfold lookV; rw [if_neg h0, if_neg hnf, if_neg h10, if_neg hs, if_neg h2, if_pos h3]
    rw [e]; exact lk_wait g κ xs A cap lost w c S hb hx hl h7 (by omega) y0 y1 _ y2 hs' _ hn hn2 h3
  by_cases h4 : (dataF (xs.take (sizeV (xs.getD 2 0 - 5).toNat))).2 ≥ 0
  · have e : lookV xs = (1, 0) := by unfold lookV; rw [if_neg h0, if_neg hnf, if_neg h10, if_neg hs, if_neg h2, if_neg h3, if_pos h4]
    rw [e]; exact lk_bad g κ xs A cap lost w c S hb hx hl h7 (by omega) y0 y1 _ y2 hs' _ hn hn2 (by omega) h4
  · have e : lookV xs = (2, sizeV (xs.getD 2 0 - 5).toNat) := by unfold lookV; rw [if_neg h0, if_neg hnf, if_neg h10, if_neg hs, if_neg h2, if_neg h3, if_neg h4]
    rw [e]; exact lk_whole g κ xs A cap lost w c S hb hx hl h7 (by omega) y0 y1 _ y2 hs' _ hn hn2 (by omega) (by omega)
end Go.Proofs.Ytkchcihglpcmiaa.Link
