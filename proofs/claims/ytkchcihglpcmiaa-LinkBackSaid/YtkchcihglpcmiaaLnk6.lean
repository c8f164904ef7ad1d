/- Chapter 14: a frame's bytes. -/
import Derived.Test.YtkchcihglpcmiaaLnk5
namespace Go.Proofs.Ytkchcihglpcmiaa.Link
open Go.RowKit Go.Proofs.Ytkchcihglpcmiaa.Sk Go.Proofs.Ytkchcihglpcmiaa.Num Go.Proofs.Ytkchcihglpcmiaa.Wire Go.Proofs.Ytkchcihglpcmiaa.PLk
open Go.Proofs.YtkchcihglpcmiaaW.PrintWords Go.Proofs.YtkchcihglpcmiaaW.PrintLast Go.Proofs.YtkchcihglpcmiaaW.PrintMore
attribute [local go_sem] max2i min2i max2v min2v

theorem address_calls (n : Int) (b1 b2 : Bool) (h1 : decide (0 ≤ n) = b1) (h2 : decide (n ≤ 65535) = b2) (w : World) : Calls Try.prog 25 #[.int .i64 n] w fun e w' => e = .returned (.bool (b1 && b2)) ∧ w = w' := by
  cases b1 <;> cases b2
  all_goals
    go_enter Try.func25, Try.ntmps25
    go_wp2
    go_ret
    exact ⟨rfl, rfl⟩
def blocksV : Nat → List Int → List Int → List Int
  | 0, _, out => out
  | f + 1, ds, out => if ds = [] then out else blocksV f (ds.drop 16) (out ++ (ds.take 16 ++ crcB (ds.take 16)))
def hdrV (f : Fr) : List Int := ([5, 100, 5 + (f.data.length : Int), f.ctl] : List Int) ++ leB 2 f.dest ++ leB 2 f.src
/-- A frame's bytes. -/
def encB (f : Fr) : List Int := blocksV f.data.length f.data (hdrV f ++ crcB (hdrV f))
/-- May it be a frame? -/
def Fr.may (f : Fr) : Prop := 0 ≤ f.ctl ∧ f.ctl ≤ 255 ∧ 0 ≤ f.dest ∧ f.dest ≤ 65535 ∧ 0 ≤ f.src ∧ f.src ≤ 65535
def EncBad (w : World) (c : Col) (e : Ending) (w' : World) : Prop := ∃ t u c', e = .returned (.tuple #[.slice none 0 0, .iface t u]) ∧ Ext [] w c w' c'
def EncOk (bs : List Int) (w : World) (c : Col) (κ : Nat) (e : Ending) (w' : World) : Prop := ∃ A cap c', e = .returned (.tuple #[.slice A bs.length cap, .nilIface]) ∧ Own u8 5 w' c' κ [] w.heap.size (.slice A bs.length cap) bs ∧ Ext [] w c w' c'

set_option maxRecDepth 100000 in
set_option maxHeartbeats 1600000 in
theorem enc_b1 (ctl dest src : Int) (ds : List Int) (A : Option Addr) (cap : Nat) (w : World) (c : Col) (S : List Nat) (κ : Nat) (hκ : κ ∉ S) (hx0 : Rd u8 w c S (.slice A ds.length cap) ds) (h : ctl < 0) :
    Calls Try.prog 11 #[.agg #[.int .i64 ctl, .int .i64 dest, .int .i64 src, .slice A ds.length cap]] w (EncBad w c) := by
  have hE0 := Ext.alloc [] w c (.cells #[.int .i64 ctl, .int .i64 dest, .int .i64 src, .slice A ds.length cap] 24) (κ + 1)
  have hb0 := Bx.new w c (κ + 1) #[.int .i64 ctl, .int .i64 dest, .int .i64 src, .slice A ds.length cap] 24
  have hx := hx0.ext hE0 (by simp)
  generalize hcz : cx c w.heap.size (κ + 1) = cz at *
  clear hcz
  have d1 : decide (ctl < 0) = true := decide_eq_true h
  clear h hx hx0
  go_enter Try.func11, Try.ntmps11
  go_wp2_with (first
    | (go_at_call 26
       refine (lin_calls _ _ _ cz).mono ?_
       rintro e wE ⟨tE, uE, cE, rfl, he⟩
       have hEE := hE0.trans he
       clear he))
  go_ret2
  exact ⟨_, _, _, rfl, hEE⟩

set_option maxRecDepth 100000 in
set_option maxHeartbeats 1600000 in
theorem enc_b2 (ctl dest src : Int) (ds : List Int) (A : Option Addr) (cap : Nat) (w : World) (c : Col) (S : List Nat) (κ : Nat) (hκ : κ ∉ S) (hx0 : Rd u8 w c S (.slice A ds.length cap) ds) (h1 : 0 ≤ ctl) (h : 255 < ctl) :
    Calls Try.prog 11 #[.agg #[.int .i64 ctl, .int .i64 dest, .int .i64 src, .slice A ds.length cap]] w (EncBad w c) := by
  have hE0 := Ext.alloc [] w c (.cells #[.int .i64 ctl, .int .i64 dest, .int .i64 src, .slice A ds.length cap] 24) (κ + 1)
  have hb0 := Bx.new w c (κ + 1) #[.int .i64 ctl, .int .i64 dest, .int .i64 src, .slice A ds.length cap] 24
  have hx := hx0.ext hE0 (by simp)
  generalize hcz : cx c w.heap.size (κ + 1) = cz at *
  clear hcz
  have d1 : decide (ctl < 0) = false := decide_eq_false (by omega)
  have d2 : decide (255 < ctl) = true := decide_eq_true h
  clear h h1 hx hx0
  go_enter Try.func11, Try.ntmps11
  go_wp2_with (first
    | (go_at_call 26
       refine (lin_calls _ _ _ cz).mono ?_
       rintro e wE ⟨tE, uE, cE, rfl, he⟩
       have hEE := hE0.trans he
       clear he))
  go_ret2
  exact ⟨_, _, _, rfl, hEE⟩

set_option maxRecDepth 100000 in
set_option maxHeartbeats 1600000 in
theorem enc_b3 (ctl dest src : Int) (ds : List Int) (A : Option Addr) (cap : Nat) (w : World) (c : Col) (S : List Nat) (κ : Nat) (hκ : κ ∉ S) (hx0 : Rd u8 w c S (.slice A ds.length cap) ds) (h1 : 0 ≤ ctl) (h : ctl ≤ 255) (b1 b2 : Bool) (g1 : decide (0 ≤ dest) = b1) (g2 : decide (dest ≤ 65535) = b2) (hb : (b1 && b2) = false) :
    Calls Try.prog 11 #[.agg #[.int .i64 ctl, .int .i64 dest, .int .i64 src, .slice A ds.length cap]] w (EncBad w c) := by
  have hE0 := Ext.alloc [] w c (.cells #[.int .i64 ctl, .int .i64 dest, .int .i64 src, .slice A ds.length cap] 24) (κ + 1)
  have hb0 := Bx.new w c (κ + 1) #[.int .i64 ctl, .int .i64 dest, .int .i64 src, .slice A ds.length cap] 24
  have hx := hx0.ext hE0 (by simp)
  generalize hcz : cx c w.heap.size (κ + 1) = cz at *
  clear hcz
  have d1 : decide (ctl < 0) = false := decide_eq_false (by omega)
  have d2 : decide (255 < ctl) = false := decide_eq_false (by omega)
  clear h h1 hx hx0
  go_enter Try.func11, Try.ntmps11
  go_wp2_with (first
    | (go_at_call 25; refine (address_calls dest b1 b2 g1 g2 _).mono ?_; rintro e w' ⟨rfl, rfl⟩; rw [hb])
    | (go_at_call 26
       refine (lin_calls _ _ _ cz).mono ?_
       rintro e wE ⟨tE, uE, cE, rfl, he⟩
       have hEE := hE0.trans he
       clear he))
  go_ret2
  exact ⟨_, _, _, rfl, hEE⟩

set_option maxRecDepth 100000 in
set_option maxHeartbeats 1600000 in
theorem enc_b4 (ctl dest src : Int) (ds : List Int) (A : Option Addr) (cap : Nat) (w : World) (c : Col) (S : List Nat) (κ : Nat) (hκ : κ ∉ S) (hx0 : Rd u8 w c S (.slice A ds.length cap) ds) (h1 : 0 ≤ ctl) (h : ctl ≤ 255) (g1 : decide (0 ≤ dest) = true) (g2 : decide (dest ≤ 65535) = true) (b3 b4 : Bool) (g3 : decide (0 ≤ src) = b3) (g4 : decide (src ≤ 65535) = b4) (hb : (b3 && b4) = false) :
    Calls Try.prog 11 #[.agg #[.int .i64 ctl, .int .i64 dest, .int .i64 src, .slice A ds.length cap]] w (EncBad w c) := by
  have hE0 := Ext.alloc [] w c (.cells #[.int .i64 ctl, .int .i64 dest, .int .i64 src, .slice A ds.length cap] 24) (κ + 1)
  have hb0 := Bx.new w c (κ + 1) #[.int .i64 ctl, .int .i64 dest, .int .i64 src, .slice A ds.length cap] 24
  have hx := hx0.ext hE0 (by simp)
  generalize hcz : cx c w.heap.size (κ + 1) = cz at *
  clear hcz
  have d1 : decide (ctl < 0) = false := decide_eq_false (by omega)
  have d2 : decide (255 < ctl) = false := decide_eq_false (by omega)
  clear h h1 hx hx0
  go_enter Try.func11, Try.ntmps11
  go_wp2_with (first
    | (go_at_call 25; refine (address_calls dest true true g1 g2 _).mono ?_; rintro e w' ⟨rfl, rfl⟩; simp only [Bool.and_true, Bool.and_false, Bool.false_and, Bool.true_and])
    | (go_at_call 25; refine (address_calls src b3 b4 g3 g4 _).mono ?_; rintro e w' ⟨rfl, rfl⟩; rw [hb])
    | (go_at_call 26
       refine (lin_calls _ _ _ cz).mono ?_
       rintro e wE ⟨tE, uE, cE, rfl, he⟩
       have hEE := hE0.trans he
       clear he))
  go_ret2
  exact ⟨_, _, _, rfl, hEE⟩

set_option maxRecDepth 100000 in
set_option maxHeartbeats 1600000 in
theorem enc_long (ctl dest src : Int) (ds : List Int) (A : Option Addr) (cap : Nat) (w : World) (c : Col) (S : List Nat) (κ : Nat) (hκ : κ ∉ S) (hx0 : Rd u8 w c S (.slice A ds.length cap) ds) (h1 : 0 ≤ ctl) (h : ctl ≤ 255) (g1 : 0 ≤ dest) (g2 : dest ≤ 65535) (g3 : 0 ≤ src) (g4 : src ≤ 65535) (hl : 250 < ds.length) :
    Calls Try.prog 11 #[.agg #[.int .i64 ctl, .int .i64 dest, .int .i64 src, .slice A ds.length cap]] w (EncBad w c) := by
  have hE0 := Ext.alloc [] w c (.cells #[.int .i64 ctl, .int .i64 dest, .int .i64 src, .slice A ds.length cap] 24) (κ + 1)
  have hb0 := Bx.new w c (κ + 1) #[.int .i64 ctl, .int .i64 dest, .int .i64 src, .slice A ds.length cap] 24
  have hx := hx0.ext hE0 (by simp)
  generalize hcz : cx c w.heap.size (κ + 1) = cz at *
  clear hcz
  have d1 : decide (ctl < 0) = false := decide_eq_false (by omega)
  have d2 : decide (255 < ctl) = false := decide_eq_false (by omega)
  have e1 : decide (0 ≤ dest) = true := decide_eq_true g1
  have e2 : decide (dest ≤ 65535) = true := decide_eq_true g2
  have e3 : decide (0 ≤ src) = true := decide_eq_true g3
  have e4 : decide (src ≤ 65535) = true := decide_eq_true g4
  have dl : decide ((250 : Int) < ds.length) = true := decide_eq_true (by omega)
  clear h h1 g1 g2 g3 g4 hx hx0 hl
  go_enter Try.func11, Try.ntmps11
  go_wp2_with (first
    | (go_at_call 25; refine (address_calls dest true true e1 e2 _).mono ?_; rintro e w' ⟨rfl, rfl⟩; simp only [Bool.and_true, Bool.and_false, Bool.false_and, Bool.true_and])
    | (go_at_call 25; refine (address_calls src true true e3 e4 _).mono ?_; rintro e w' ⟨rfl, rfl⟩; simp only [Bool.and_true, Bool.and_false, Bool.false_and, Bool.true_and])
    | (go_at_call 26
       refine (lin_calls _ _ _ cz).mono ?_
       rintro e wE ⟨tE, uE, cE, rfl, he⟩
       have hEE := hE0.trans he
       clear he))
  go_ret2
  exact ⟨_, _, _, rfl, hEE⟩

theorem notin_more (S : List Nat) (k : Nat) : k + S.foldr max 0 + 1 ∉ S := by
  intro h
  have key : ∀ (S : List Nat) (x : Nat), x ∈ S → x ≤ S.foldr max 0 := by
    intro S
    induction S with
    | nil => intro x h; cases h
    | cons y S ih =>
      intro x h
      simp only [List.foldr_cons]
      rcases List.mem_cons.1 h with rfl | h
      · exact Nat.le_max_left _ _
      · exact Nat.le_trans (ih x h) (Nat.le_max_right _ _)
  have := key S _ h
  omega
theorem blocks_step (f : Nat) (zs out : List Int) (m : Nat) (hmm : m = min 16 zs.length) (hm : 1 ≤ m) (hf : zs.length ≤ f) :
    ∃ f', f = f' + 1 ∧ blocksV f zs out = blocksV f' (zs.drop 16) (out ++ (zs.take m ++ crcB (zs.take m))) := by
  obtain ⟨f', rfl⟩ : ∃ f', f = f' + 1 := ⟨f - 1, by omega⟩
  have h16 : zs.take 16 = zs.take m := by
    rcases Nat.lt_or_ge zs.length 16 with h | h
    · rw [List.take_of_length_le (by omega), List.take_of_length_le (by omega)]
    · rw [show m = 16 by omega]
  have hne : zs ≠ [] := by rintro rfl; simp at hmm; omega
  exact ⟨f', rfl, by rw [blocksV, if_neg hne, h16]⟩

set_option maxRecDepth 100000 in
set_option maxHeartbeats 3200000 in
theorem enc_ok (ctl dest src : Int) (ds : List Int) (A : Option Addr) (cap : Nat) (w : World) (c : Col) (S : List Nat) (κ : Nat) (hκ : κ ∉ S) (hx0 : Rd u8 w c S (.slice A ds.length cap) ds) (h1 : 0 ≤ ctl) (h : ctl ≤ 255) (g1 : 0 ≤ dest) (g2 : dest ≤ 65535) (g3 : 0 ≤ src) (g4 : src ≤ 65535) (hl : ds.length ≤ 250) :
    Calls Try.prog 11 #[.agg #[.int .i64 ctl, .int .i64 dest, .int .i64 src, .slice A ds.length cap]] w (EncOk (encB ⟨ctl, dest, src, ds⟩) w c κ) := by
  have hE0 := Ext.alloc [] w c (.cells #[.int .i64 ctl, .int .i64 dest, .int .i64 src, .slice A ds.length cap] 24) (κ + 1)
  have hb0 := Bx.new w c (κ + 1) #[.int .i64 ctl, .int .i64 dest, .int .i64 src, .slice A ds.length cap] 24
  have hx := hx0.ext hE0 (by simp)
  generalize hcz : cx c w.heap.size (κ + 1) = cz at *
  clear hcz
  have d1 : decide (ctl < 0) = false := decide_eq_false (by omega)
  have d2 : decide (255 < ctl) = false := decide_eq_false (by omega)
  have e1 : decide (0 ≤ dest) = true := decide_eq_true g1
  have e2 : decide (dest ≤ 65535) = true := decide_eq_true g2
  have e3 : decide (0 ≤ src) = true := decide_eq_true g3
  have e4 : decide (src ≤ 65535) = true := decide_eq_true g4
  have dl : decide ((250 : Int) < ds.length) = false := decide_eq_false (by omega)
  have hcc : ds.length ≤ cap := by obtain ⟨_, _, e, h⟩ := hx0.slice; injection e with _ _ e; omega
  have hSκ : ∀ k, k ∈ S → k ∉ [κ] := fun k hk he => hκ (by simp at he; rw [← he]; exact hk)
  have f1 : fitsU 2 dest := ⟨by decide, by decide, g1, by rw [show (2 : Int) ^ (8 * (2 : Int)).toNat = 65536 by rfl]; omega⟩
  have f2 : fitsU 2 src := ⟨by decide, by decide, g3, by rw [show (2 : Int) ^ (8 * (2 : Int)).toNat = 65536 by rfl]; omega⟩
  have m1 : (5 + (ds.length : Int)) % 256 = 5 + ds.length := by omega
  have m2 : ctl % 256 = ctl := by omega
  have hh : ([] ++ [5, 100, 5 + (ds.length : Int), ctl] ++ leB (2 : Int).toNat dest) ++ leB (2 : Int).toNat src = hdrV ⟨ctl, dest, src, ds⟩ := rfl
  have hhl : (hdrV ⟨ctl, dest, src, ds⟩).length = 8 := rfl
  have hr4 : ∀ x, x ∈ [5, 100, 5 + (ds.length : Int), ctl] → IntKind.u8.min ≤ x ∧ x ≤ IntKind.u8.max := by intro x hx; simp only [List.mem_cons, List.not_mem_nil, or_false] at hx; apply u8rng <;> omega
  have he2 : encB ⟨ctl, dest, src, ds⟩ = blocksV ds.length ds (hdrV ⟨ctl, dest, src, ds⟩ ++ crcB (hdrV ⟨ctl, dest, src, ds⟩)) := rfl
  rw [he2]
  generalize hdrV ⟨ctl, dest, src, ds⟩ = hd at *
  have HH := Lib.hid hh
  have HL := Lib.hid hl
  have F1 := Lib.hid f1
  have F2 := Lib.hid f2
  have HHL := Lib.hid hhl
  clear hh h h1 g1 g2 g3 g4 hx0 he2 hl f1 f2 hhl
  go_enter Try.func11, Try.ntmps11
  go_wp2_with (first
    | (go_at_call 25; refine (address_calls dest true true e1 e2 _).mono ?_; rintro e w' ⟨rfl, rfl⟩; simp only [Bool.and_true, Bool.and_false, Bool.false_and, Bool.true_and])
    | (go_at_call 25; refine (address_calls src true true e3 e4 _).mono ?_; rintro e w' ⟨rfl, rfl⟩; simp only [Bool.and_true, Bool.and_false, Bool.false_and, Bool.true_and])
    | (go_at_call 27
       have htok := hE0
       clear htok
       refine (newWriter_calls (w.alloc (.cells #[.int .i64 ctl, .int .i64 dest, .int .i64 src, .slice A ds.length cap] 24)) cz κ).mono ?_
       rintro e w1 ⟨gw, c1, rfl, hgw, hw1, he⟩
       have hE1 := hE0.trans he
       replace hb0 := hb0.ext he (by simp)
       replace hx := hx.ext he (by simp)
       have hgw' : w.heap.size ≤ gw := Nat.le_trans hE0.size hgw
       clear hE0 he hgw
       obtain ⟨⟨k0a, k1a, k2a, k3a⟩, _⟩ := Bx.four hb0)
    | (go_at_call 28
       have htok := hE1
       clear htok
       have hal := Ext.alloc [] w1 c1 (.cells #[.int .u8 5, .int .u8 100, .int .u8 (5 + (ds.length : Int)), .int .u8 ctl] 5) (κ + 1)
       have hlit : Own u8 5 (w1.alloc (.cells #[.int .u8 5, .int .u8 100, .int .u8 (5 + (ds.length : Int)), .int .u8 ctl] 5)) (cx c1 w1.heap.size (κ + 1)) (κ + 1) [] w1.heap.size (.slice (some ⟨w1.heap.size, 0, none⟩) 4 4) [5, 100, 5 + (ds.length : Int), ctl] := Own.ints .u8 5 w1 c1 (κ + 1) [] [5, 100, 5 + (ds.length : Int), ctl] hr4 (by simp)
       replace hb0 := hb0.ext hal (by simp)
       replace hx := hx.ext hal (by simp)
       replace hw1 := hw1.ext hal (by simp)
       replace hE1 := hE1.trans hal
       generalize cx c1 w1.heap.size (κ + 1) = d1 at *
       generalize w1.alloc (.cells #[.int .u8 5, .int .u8 100, .int .u8 (5 + (ds.length : Int)), .int .u8 ctl] 5) = v1 at *
       refine (wbytes_calls gw [] [5, 100, 5 + (ds.length : Int), ctl] _ v1 d1 κ [κ + 1] hw1 (hlit.rd (by simp) (by simp)) (by simp)).mono ?_
       rintro e w2 ⟨c2, rfl, hw2, he, hB⟩
       have hE2 := hE1.later hgw' hB he.col
       replace hb0 := hb0.ext he (by simp)
       replace hx := hx.ext he hSκ
       clear hE1 he hB hw1 hlit hal k0a k1a k2a k3a
       obtain ⟨⟨k0b, k1b, k2b, k3b⟩, _⟩ := Bx.four hb0)
    | (go_at_call 29
       have htok := hE2
       clear htok
       refine (wu_ok gw _ 2 dest w2 c2 κ hw2 F1.out (by simp)).mono ?_
       rintro e w3 ⟨c3, rfl, hw3, he, hB⟩
       have hE3 := hE2.later hgw' hB he.col
       replace hb0 := hb0.ext he (by simp)
       replace hx := hx.ext he hSκ
       clear hE2 he hB hw2 k0b k1b k2b k3b
       obtain ⟨⟨k0c, k1c, k2c, k3c⟩, _⟩ := Bx.four hb0)
    | (go_at_call 29
       have htok := hE3
       clear htok
       refine (wu_ok gw _ 2 src w3 c3 κ hw3 F2.out (by simp [leB_length])).mono ?_
       rintro e w4 ⟨c4, rfl, hw4, he, hB⟩
       have hE4 := hE3.later hgw' hB he.col
       replace hb0 := hb0.ext he (by simp)
       replace hx := hx.ext he hSκ
       clear hE3 he hB hw3 k0c k1c k2c k3c
       obtain ⟨⟨k0d, k1d, k2d, k3d⟩, _⟩ := Bx.four hb0)
    | (go_at_call 31
       have htok := hE4
       clear htok
       rw [HH.out] at hw4
       refine (out_calls gw hd w4 c4 κ (κ + 1) hw4 (by rw [HHL.out]; omega)).mono ?_
       rintro e w5 ⟨A5, cap5, c5, rfl, ho5, he⟩
       have hE5 := hE4.trans he
       replace hb0 := hb0.ext he (by simp)
       replace hx := hx.ext he (by simp)
       clear hE4 he hw4 k0d k1d k2d k3d
       obtain ⟨⟨k0e, k1e, k2e, k3e⟩, _⟩ := Bx.four hb0)
    | (go_at_call 30
       have htok := hE5
       clear htok
       refine (summed_calls hd A5 cap5 w5 c5 [κ + 1] κ (ho5.rd (by simp) (by simp)) (by rw [HHL.out]; omega) (by simp)).mono ?_
       rintro e w6 ⟨A6, cap6, c6, rfl, ho6, he⟩
       have hE6 := hE5.trans he
       replace hb0 := hb0.ext he (by simp)
       replace hx := hx.ext he (by simp)
       replace ho6 := ho6.base (β' := w.heap.size) hE5.size
       clear hE5 he ho5 k0e k1e k2e k3e))
  have ho6' : Own Wire.u8 5 w6 c6 κ [] w.heap.size (.slice A6 (hd.length + 2) cap6) (hd ++ crcB hd) := ho6
  go_loopw [5, 6] (fun ov i wr => ∃ (f a : Nat) (c' : Col) (out : List Int), i = .int .i64 a ∧ a ≤ ds.length + 15 ∧ blocksV ds.length ds (hd ++ crcB hd) = blocksV f (ds.drop a) out ∧ (ds.drop a).length ≤ f ∧ out.length ≤ 10 + 2 * a ∧ Own Wire.u8 5 wr c' κ [] w.heap.size ov out ∧ Rd Wire.u8 wr c' S (.slice A ds.length cap) ds ∧ Bx wr c' (κ + 1) w.heap.size #[.int .i64 ctl, .int .i64 dest, .int .i64 src, .slice A ds.length cap] 24 ∧ Ext [] w c wr c') (fun _ i _ => ds.length + 16 - (intOf i).toNat)
  case atStart => exact ⟨ds.length, 0, c6, _, rfl, by omega, rfl, by simp, by simp only [List.length_append, crcB_len, HHL.out]; omega, ho6', hx, hb0, hE6⟩
  case round =>
    clear hx hb0 ho6 ho6' hE6
    have hl := HL.out
    obtain ⟨f, a, c', out, rfl, hal, hd2, hf, hol, ho, hx, hb0, hE⟩ := hrel
    obtain ⟨A0, cap0, rfl⟩ := ho.slice
    by_cases hlt : a < ds.length
    · obtain ⟨m, hm1, hm2, hm3⟩ : ∃ m : Nat, m = min 16 (ds.length - a) ∧ 1 ≤ m ∧ a + m ≤ ds.length := ⟨_, rfl, by omega, by omega⟩
      obtain ⟨hi, hmin, hhi⟩ : ∃ hi : Int, (if (ds.length : Int) < ↑a + 16 then (ds.length : Int) else ↑a + 16) = hi ∧ hi = ((a + m : Nat) : Int) := ⟨_, rfl, by split <;> omega⟩
      obtain ⟨A3, hcut, hrd⟩ := Sk.cut_lh (P := Try.prog) Wire.u8 22 5 _ _ Try.underlying22 info_u8 A ds.length cap .i64 .i64 a hi m (by omega) (by omega) (by omega) hcc
      have hml : ((ds.drop a).take m).length = m := by rw [List.length_take, List.length_drop]; omega
      have hstep := blocks_step f (ds.drop a) out m (by rw [List.length_drop]; exact hm1) hm2 hf
      rw [List.drop_drop, ← hd2] at hstep
      obtain ⟨f', rfl, hs1⟩ := hstep
      simp only [Int.toNat_natCast] at hcut hrd
      have H1 := Lib.hid hml
      have H2 := Lib.hid hs1
      have H3 := Lib.hid hhi
      have H4 := Lib.hid hrd
      have H5 := Lib.hid hm3
      have H6 := Lib.hid hm1
      clear hml hs1 hhi hrd hm3 hm2 hm1 hd2
      generalize hys : (ds.drop a).take m = ys at *
      have H8 := Lib.hid hys
      clear hys
      obtain ⟨⟨k0, k1, k2, k3⟩, _⟩ := Bx.four hb0
      go_wp2_with (first
        | (go_at_call 30
           have htok := hE
           clear htok
           have hr3 := H4.out wr c' S ds hx
           rw [H8.out] at hr3
           have hQ := summed_calls ys A3 (cap - a) wr c' S (κ + 1 + S.foldr max 0 + 1) (by rw [H1.out]; exact hr3) (by rw [H1.out]; have := H5.out; omega) (notin_more S (κ + 1))
           rw [H1.out] at hQ
           refine hQ.mono ?_
           rintro e w2 ⟨A2, cap2, c2, rfl, ho2, he⟩
           have hE2 := hE.trans he
           replace ho := ho.ext he (by simp) (by simp)
           replace hx := hx.ext he (by simp)
           replace hb0 := hb0.ext he (by simp)
           have hr2 : Rd Wire.u8 w2 c2 [κ + 1 + S.foldr max 0 + 1] (.slice A2 (m + 2) cap2) (ys ++ crcB ys) := ho2.rd (by simp) (by simp)
           clear hE he hQ hr3 ho2 k0 k1 k2 k3)
        | (at_builtin
           have htok := hE2
           clear htok
           have hyl : (ys ++ crcB ys).length = m + 2 := by rw [List.length_append, crcB_len, H1.out]
           have hsz : (out.length + (ys ++ crcB ys).length) * 1 ≤ 140737488355328 := by rw [hyl]; have := H5.out; omega
           refine own_append Wire.u8 (by decide) rfl _ _ 22 5 (.int .u8 0) 1 rfl Try.underlying22 info_u8 rfl (by decide) rfl rfl (hE2.size) ho (by simp) hr2 (fun x cs _ hK => kint_any hK) hsz ?_
           intro vv w3 ho3 he hb
           have hE3 := hE2.later (Nat.le_refl _) (ho.below hb (hE2.size)) he.col
           replace hx := hx.ext he hSκ
           replace hb0 := hb0.ext he (by simp)
           obtain ⟨A5, cap5, rfl⟩ := ho3.slice
           clear ho hE2 he hb hr2 hsz))
      go_roundw
      case rel => exact ⟨f', a + 16, _, out ++ (ys ++ crcB ys), by go_num, by omega, H2.out, by rw [List.length_drop] at hf ⊢; omega, by rw [List.length_append, hyl]; have := H6.out; omega, by have := ho3; rw [List.length_append, hyl] at this; exact this, hx, hb0, hE3⟩
      case measure => simp [intOf]; omega
    · obtain ⟨⟨k0, k1, k2, k3⟩, _⟩ := Bx.four hb0
      have hend : blocksV ds.length ds (hd ++ crcB hd) = out := by rw [hd2, List.drop_of_length_le (by omega)]; cases f <;> rfl
      go_wp2
      go_ret2
      rw [hend]
      exact ⟨_, _, _, rfl, ho, hE⟩

end Go.Proofs.Ytkchcihglpcmiaa.Link
