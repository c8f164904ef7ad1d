/- The walk of LinkSizes. -/
import Derived.Test.YtkchcihglpcmiaaLnk10
namespace Go.Proofs.Ytkchcihglpcmiaa.Link
open Go.RowKit Go.Proofs.Ytkchcihglpcmiaa.Sk Go.Proofs.Ytkchcihglpcmiaa.Num Go.Proofs.Ytkchcihglpcmiaa.Wire Go.Proofs.Ytkchcihglpcmiaa.PLk
open Go.Proofs.YtkchcihglpcmiaaW.PrintWords Go.Proofs.YtkchcihglpcmiaaW.PrintLast Go.Proofs.YtkchcihglpcmiaaW.PrintMore

theorem enc_bad (ctl dest src : Int) (ds : List Int) (A : Option Addr) (cap : Nat) (w : World) (c : Col) (S : List Nat) (κ : Nat) (hκ : κ ∉ S) (hx : Rd u8 w c S (.slice A ds.length cap) ds) (h : ¬ (Fr.may ⟨ctl, dest, src, ds⟩ ∧ ds.length ≤ 250)) :
    Calls Try.prog 11 #[.agg #[.int .i64 ctl, .int .i64 dest, .int .i64 src, .slice A ds.length cap]] w (EncBad w c) := by
  by_cases h1 : ctl < 0
  · exact enc_b1 ctl dest src ds A cap w c S κ hκ hx h1
  by_cases h2 : 255 < ctl
  · exact enc_b2 ctl dest src ds A cap w c S κ hκ hx (by omega) h2
  by_cases h3 : 0 ≤ dest ∧ dest ≤ 65535
  case neg => exact enc_b3 ctl dest src ds A cap w c S κ hκ hx (by omega) (by omega) _ _ rfl rfl (by simpa [Classical.not_and_iff_not_or_not] using h3)
  by_cases h4 : 0 ≤ src ∧ src ≤ 65535
  case neg => exact enc_b4 ctl dest src ds A cap w c S κ hκ hx (by omega) (by omega) (decide_eq_true h3.1) (decide_eq_true h3.2) _ _ rfl rfl (by simpa [Classical.not_and_iff_not_or_not] using h4)
  exact enc_long ctl dest src ds A cap w c S κ hκ hx (by omega) (by omega) h3.1 h3.2 h4.1 h4.2 (by
    apply Classical.byContradiction
    intro hh
    exact h ⟨⟨show 0 ≤ ctl by omega, show ctl ≤ 255 by omega, h3.1, h3.2, h4.1, h4.2⟩, by omega⟩)
abbrev GoodB (w : World) : Ending → World → Prop := fun e w' => e = .returned (.bool true) ∧ Below w.heap.size w w'

set_option maxRecDepth 100000 in
set_option maxHeartbeats 3200000 in
theorem sz_long (ctl dest src : Int) (ds : List Int) (A : Option Addr) (cap : Nat) (w : World) (hx0 : Rd (kint .u8) w (fun _ => 0) [0] (.slice A ds.length cap) ds) (hl : 6000 < ds.length) :
    Calls Try.prog 7 #[.agg #[.int .i64 ctl, .int .i64 dest, .int .i64 src, .slice A ds.length cap]] w (GoodB w) := by
  have hF := fun w c => first_calls w c
  have HF := Lib.hid hF
  clear hF
  have hE0 := Ext.alloc [] w (fun _ => 0) (.cells #[.int .i64 ctl, .int .i64 dest, .int .i64 src, .slice A ds.length cap] 24) 1
  have hb0 := Bx.new w (fun _ => 0) 1 #[.int .i64 ctl, .int .i64 dest, .int .i64 src, .slice A ds.length cap] 24
  have hx := hx0.ext hE0 (by simp)
  generalize hcz : cx (fun _ => 0) w.heap.size 1 = cz at *
  clear hcz
  have d0 : decide ((6000 : Int) < ds.length) = true := decide_eq_true (by omega)
  clear hl hx0
  go_enter Try.func7, Try.ntmps7
  go_wp2_with (first
    | (go_at_call 10
       have htok := hE0
       clear htok
       refine (HF.out (w.alloc (.cells #[.int .i64 ctl, .int .i64 dest, .int .i64 src, .slice A ds.length cap] 24)) cz).mono ?_
       rintro e w1 ⟨c1, rfl, he⟩
       have hE1 := hE0.trans he
       replace hb0 := hb0.ext he (by simp)
       replace hx := hx.ext he (by simp)
       obtain ⟨⟨k0b, k1b, k2b, k3b⟩, _⟩ := Link.Bx.four hb0
       clear hE0 he)
    | (go_at_call 10
       have htok := hE1
       clear htok
       refine (HF.out w1 c1).mono ?_
       rintro e w2 ⟨c2, rfl, he⟩
       have hE2 := hE1.trans he
       replace hb0 := hb0.ext he (by simp)
       replace hx := hx.ext he (by simp)
       obtain ⟨⟨k0c, k1c, k2c, k3c⟩, _⟩ := Link.Bx.four hb0
       clear hE1 he))
  go_ret
  exact ⟨rfl, hE2.belowAll⟩

set_option maxRecDepth 100000 in
set_option maxHeartbeats 3200000 in
theorem sz_b0 (ctl dest src : Int) (ds : List Int) (A : Option Addr) (cap : Nat) (w : World) (hx0 : Rd (kint .u8) w (fun _ => 0) [0] (.slice A ds.length cap) ds) (hl : ds.length ≤ 6000) (HE : Hid (∀ w c, Rd (kint .u8) w c [0] (.slice A ds.length cap) ds → Calls Try.prog 11 #[.agg #[.int .i64 ctl, .int .i64 dest, .int .i64 src, .slice A ds.length cap]] w (EncBad w c))) (h : 250 < ds.length) :
    Calls Try.prog 7 #[.agg #[.int .i64 ctl, .int .i64 dest, .int .i64 src, .slice A ds.length cap]] w (GoodB w) := by
  have hF := fun w c => first_calls w c
  have HF := Lib.hid hF
  clear hF
  have hE0 := Ext.alloc [] w (fun _ => 0) (.cells #[.int .i64 ctl, .int .i64 dest, .int .i64 src, .slice A ds.length cap] 24) 1
  have hb0 := Bx.new w (fun _ => 0) 1 #[.int .i64 ctl, .int .i64 dest, .int .i64 src, .slice A ds.length cap] 24
  have hx := hx0.ext hE0 (by simp)
  generalize hcz : cx (fun _ => 0) w.heap.size 1 = cz at *
  clear hcz
  have d0 : decide ((6000 : Int) < ds.length) = false := decide_eq_false (by omega)
  have d1 : decide ((250 : Int) < ds.length) = true := decide_eq_true (by omega)
  clear h hl
  clear hx0
  go_enter Try.func7, Try.ntmps7
  go_wp2_with (first
    | (go_at_call 10
       have htok := hE0
       clear htok
       refine (HF.out (w.alloc (.cells #[.int .i64 ctl, .int .i64 dest, .int .i64 src, .slice A ds.length cap] 24)) cz).mono ?_
       rintro e w1 ⟨c1, rfl, he⟩
       have hE1 := hE0.trans he
       replace hb0 := hb0.ext he (by simp)
       replace hx := hx.ext he (by simp)
       obtain ⟨⟨k0b, k1b, k2b, k3b⟩, _⟩ := Link.Bx.four hb0
       clear hE0 he)
    | (go_at_call 11
       have htok := hE1
       clear htok
       refine (HE.out w1 c1 hx).mono ?_
       rintro e w2 ⟨tE, uE, c2, rfl, he⟩
       have hE2 := hE1.trans he
       replace hb0 := hb0.ext he (by simp)
       replace hx := hx.ext he (by simp)
       clear k0b k1b k2b k3b
       obtain ⟨⟨k0c, k1c, k2c, k3c⟩, _⟩ := Link.Bx.four hb0
       clear hE1 he)
    | (go_at_call 10
       have htok := hE2
       clear htok
       refine (HF.out w2 c2).mono ?_
       rintro e w3 ⟨c3, rfl, he⟩
       have hE3 := hE2.trans he
       replace hb0 := hb0.ext he (by simp)
       replace hx := hx.ext he (by simp)
       clear k0c k1c k2c k3c
       obtain ⟨⟨k0d, k1d, k2d, k3d⟩, _⟩ := Link.Bx.four hb0
       clear hE2 he))
  go_ret
  exact ⟨rfl, hE3.belowAll⟩

set_option maxRecDepth 100000 in
set_option maxHeartbeats 3200000 in
theorem sz_b1 (ctl dest src : Int) (ds : List Int) (A : Option Addr) (cap : Nat) (w : World) (hx0 : Rd (kint .u8) w (fun _ => 0) [0] (.slice A ds.length cap) ds) (hl : ds.length ≤ 6000) (HE : Hid (∀ w c, Rd (kint .u8) w c [0] (.slice A ds.length cap) ds → Calls Try.prog 11 #[.agg #[.int .i64 ctl, .int .i64 dest, .int .i64 src, .slice A ds.length cap]] w (EncBad w c))) (h : ds.length ≤ 250) (hb : ctl < 0) :
    Calls Try.prog 7 #[.agg #[.int .i64 ctl, .int .i64 dest, .int .i64 src, .slice A ds.length cap]] w (GoodB w) := by
  have hF := fun w c => first_calls w c
  have HF := Lib.hid hF
  clear hF
  have hE0 := Ext.alloc [] w (fun _ => 0) (.cells #[.int .i64 ctl, .int .i64 dest, .int .i64 src, .slice A ds.length cap] 24) 1
  have hb0 := Bx.new w (fun _ => 0) 1 #[.int .i64 ctl, .int .i64 dest, .int .i64 src, .slice A ds.length cap] 24
  have hx := hx0.ext hE0 (by simp)
  generalize hcz : cx (fun _ => 0) w.heap.size 1 = cz at *
  clear hcz
  have d0 : decide ((6000 : Int) < ds.length) = false := decide_eq_false (by omega)
  have d1 : decide ((250 : Int) < ds.length) = false := decide_eq_false (by omega)
  have d2 : decide (ctl < 0) = true := decide_eq_true (by omega)
  clear h hl hb
  clear hx0
  go_enter Try.func7, Try.ntmps7
  go_wp2_with (first
    | (go_at_call 10
       have htok := hE0
       clear htok
       refine (HF.out (w.alloc (.cells #[.int .i64 ctl, .int .i64 dest, .int .i64 src, .slice A ds.length cap] 24)) cz).mono ?_
       rintro e w1 ⟨c1, rfl, he⟩
       have hE1 := hE0.trans he
       replace hb0 := hb0.ext he (by simp)
       replace hx := hx.ext he (by simp)
       obtain ⟨⟨k0b, k1b, k2b, k3b⟩, _⟩ := Link.Bx.four hb0
       clear hE0 he)
    | (go_at_call 11
       have htok := hE1
       clear htok
       refine (HE.out w1 c1 hx).mono ?_
       rintro e w2 ⟨tE, uE, c2, rfl, he⟩
       have hE2 := hE1.trans he
       replace hb0 := hb0.ext he (by simp)
       replace hx := hx.ext he (by simp)
       clear k0b k1b k2b k3b
       obtain ⟨⟨k0c, k1c, k2c, k3c⟩, _⟩ := Link.Bx.four hb0
       clear hE1 he)
    | (go_at_call 10
       have htok := hE2
       clear htok
       refine (HF.out w2 c2).mono ?_
       rintro e w3 ⟨c3, rfl, he⟩
       have hE3 := hE2.trans he
       replace hb0 := hb0.ext he (by simp)
       replace hx := hx.ext he (by simp)
       clear k0c k1c k2c k3c
       obtain ⟨⟨k0d, k1d, k2d, k3d⟩, _⟩ := Link.Bx.four hb0
       clear hE2 he))
  go_ret
  exact ⟨rfl, hE3.belowAll⟩

set_option maxRecDepth 100000 in
set_option maxHeartbeats 3200000 in
theorem sz_b2 (ctl dest src : Int) (ds : List Int) (A : Option Addr) (cap : Nat) (w : World) (hx0 : Rd (kint .u8) w (fun _ => 0) [0] (.slice A ds.length cap) ds) (hl : ds.length ≤ 6000) (HE : Hid (∀ w c, Rd (kint .u8) w c [0] (.slice A ds.length cap) ds → Calls Try.prog 11 #[.agg #[.int .i64 ctl, .int .i64 dest, .int .i64 src, .slice A ds.length cap]] w (EncBad w c))) (h : ds.length ≤ 250) (hb : ¬ ctl < 0 ∧ 255 < ctl) :
    Calls Try.prog 7 #[.agg #[.int .i64 ctl, .int .i64 dest, .int .i64 src, .slice A ds.length cap]] w (GoodB w) := by
  have hF := fun w c => first_calls w c
  have HF := Lib.hid hF
  clear hF
  have hE0 := Ext.alloc [] w (fun _ => 0) (.cells #[.int .i64 ctl, .int .i64 dest, .int .i64 src, .slice A ds.length cap] 24) 1
  have hb0 := Bx.new w (fun _ => 0) 1 #[.int .i64 ctl, .int .i64 dest, .int .i64 src, .slice A ds.length cap] 24
  have hx := hx0.ext hE0 (by simp)
  generalize hcz : cx (fun _ => 0) w.heap.size 1 = cz at *
  clear hcz
  have d0 : decide ((6000 : Int) < ds.length) = false := decide_eq_false (by omega)
  have d1 : decide ((250 : Int) < ds.length) = false := decide_eq_false (by omega)
  have d2 : decide (ctl < 0) = false := decide_eq_false (by omega)
  have d3 : decide (255 < ctl) = true := decide_eq_true (by omega)
  clear h hl hb
  clear hx0
  go_enter Try.func7, Try.ntmps7
  go_wp2_with (first
    | (go_at_call 10
       have htok := hE0
       clear htok
       refine (HF.out (w.alloc (.cells #[.int .i64 ctl, .int .i64 dest, .int .i64 src, .slice A ds.length cap] 24)) cz).mono ?_
       rintro e w1 ⟨c1, rfl, he⟩
       have hE1 := hE0.trans he
       replace hb0 := hb0.ext he (by simp)
       replace hx := hx.ext he (by simp)
       obtain ⟨⟨k0b, k1b, k2b, k3b⟩, _⟩ := Link.Bx.four hb0
       clear hE0 he)
    | (go_at_call 11
       have htok := hE1
       clear htok
       refine (HE.out w1 c1 hx).mono ?_
       rintro e w2 ⟨tE, uE, c2, rfl, he⟩
       have hE2 := hE1.trans he
       replace hb0 := hb0.ext he (by simp)
       replace hx := hx.ext he (by simp)
       clear k0b k1b k2b k3b
       obtain ⟨⟨k0c, k1c, k2c, k3c⟩, _⟩ := Link.Bx.four hb0
       clear hE1 he)
    | (go_at_call 10
       have htok := hE2
       clear htok
       refine (HF.out w2 c2).mono ?_
       rintro e w3 ⟨c3, rfl, he⟩
       have hE3 := hE2.trans he
       replace hb0 := hb0.ext he (by simp)
       replace hx := hx.ext he (by simp)
       clear k0c k1c k2c k3c
       obtain ⟨⟨k0d, k1d, k2d, k3d⟩, _⟩ := Link.Bx.four hb0
       clear hE2 he))
  go_ret
  exact ⟨rfl, hE3.belowAll⟩

set_option maxRecDepth 100000 in
set_option maxHeartbeats 3200000 in
theorem sz_b3 (ctl dest src : Int) (ds : List Int) (A : Option Addr) (cap : Nat) (w : World) (hx0 : Rd (kint .u8) w (fun _ => 0) [0] (.slice A ds.length cap) ds) (hl : ds.length ≤ 6000) (HE : Hid (∀ w c, Rd (kint .u8) w c [0] (.slice A ds.length cap) ds → Calls Try.prog 11 #[.agg #[.int .i64 ctl, .int .i64 dest, .int .i64 src, .slice A ds.length cap]] w (EncBad w c))) (h : ds.length ≤ 250) (hb : ¬ ctl < 0 ∧ ¬ 255 < ctl ∧ dest < 0) :
    Calls Try.prog 7 #[.agg #[.int .i64 ctl, .int .i64 dest, .int .i64 src, .slice A ds.length cap]] w (GoodB w) := by
  have hF := fun w c => first_calls w c
  have HF := Lib.hid hF
  clear hF
  have hE0 := Ext.alloc [] w (fun _ => 0) (.cells #[.int .i64 ctl, .int .i64 dest, .int .i64 src, .slice A ds.length cap] 24) 1
  have hb0 := Bx.new w (fun _ => 0) 1 #[.int .i64 ctl, .int .i64 dest, .int .i64 src, .slice A ds.length cap] 24
  have hx := hx0.ext hE0 (by simp)
  generalize hcz : cx (fun _ => 0) w.heap.size 1 = cz at *
  clear hcz
  have d0 : decide ((6000 : Int) < ds.length) = false := decide_eq_false (by omega)
  have d1 : decide ((250 : Int) < ds.length) = false := decide_eq_false (by omega)
  have d2 : decide (ctl < 0) = false := decide_eq_false (by omega)
  have d3 : decide (255 < ctl) = false := decide_eq_false (by omega)
  have d4 : decide (dest < 0) = true := decide_eq_true (by omega)
  clear h hl hb
  clear hx0
  go_enter Try.func7, Try.ntmps7
  go_wp2_with (first
    | (go_at_call 10
       have htok := hE0
       clear htok
       refine (HF.out (w.alloc (.cells #[.int .i64 ctl, .int .i64 dest, .int .i64 src, .slice A ds.length cap] 24)) cz).mono ?_
       rintro e w1 ⟨c1, rfl, he⟩
       have hE1 := hE0.trans he
       replace hb0 := hb0.ext he (by simp)
       replace hx := hx.ext he (by simp)
       obtain ⟨⟨k0b, k1b, k2b, k3b⟩, _⟩ := Link.Bx.four hb0
       clear hE0 he)
    | (go_at_call 11
       have htok := hE1
       clear htok
       refine (HE.out w1 c1 hx).mono ?_
       rintro e w2 ⟨tE, uE, c2, rfl, he⟩
       have hE2 := hE1.trans he
       replace hb0 := hb0.ext he (by simp)
       replace hx := hx.ext he (by simp)
       clear k0b k1b k2b k3b
       obtain ⟨⟨k0c, k1c, k2c, k3c⟩, _⟩ := Link.Bx.four hb0
       clear hE1 he)
    | (go_at_call 10
       have htok := hE2
       clear htok
       refine (HF.out w2 c2).mono ?_
       rintro e w3 ⟨c3, rfl, he⟩
       have hE3 := hE2.trans he
       replace hb0 := hb0.ext he (by simp)
       replace hx := hx.ext he (by simp)
       clear k0c k1c k2c k3c
       obtain ⟨⟨k0d, k1d, k2d, k3d⟩, _⟩ := Link.Bx.four hb0
       clear hE2 he))
  go_ret
  exact ⟨rfl, hE3.belowAll⟩

set_option maxRecDepth 100000 in
set_option maxHeartbeats 3200000 in
theorem sz_b4 (ctl dest src : Int) (ds : List Int) (A : Option Addr) (cap : Nat) (w : World) (hx0 : Rd (kint .u8) w (fun _ => 0) [0] (.slice A ds.length cap) ds) (hl : ds.length ≤ 6000) (HE : Hid (∀ w c, Rd (kint .u8) w c [0] (.slice A ds.length cap) ds → Calls Try.prog 11 #[.agg #[.int .i64 ctl, .int .i64 dest, .int .i64 src, .slice A ds.length cap]] w (EncBad w c))) (h : ds.length ≤ 250) (hb : ¬ ctl < 0 ∧ ¬ 255 < ctl ∧ ¬ dest < 0 ∧ 65535 < dest) :
    Calls Try.prog 7 #[.agg #[.int .i64 ctl, .int .i64 dest, .int .i64 src, .slice A ds.length cap]] w (GoodB w) := by
  have hF := fun w c => first_calls w c
  have HF := Lib.hid hF
  clear hF
  have hE0 := Ext.alloc [] w (fun _ => 0) (.cells #[.int .i64 ctl, .int .i64 dest, .int .i64 src, .slice A ds.length cap] 24) 1
  have hb0 := Bx.new w (fun _ => 0) 1 #[.int .i64 ctl, .int .i64 dest, .int .i64 src, .slice A ds.length cap] 24
  have hx := hx0.ext hE0 (by simp)
  generalize hcz : cx (fun _ => 0) w.heap.size 1 = cz at *
  clear hcz
  have d0 : decide ((6000 : Int) < ds.length) = false := decide_eq_false (by omega)
  have d1 : decide ((250 : Int) < ds.length) = false := decide_eq_false (by omega)
  have d2 : decide (ctl < 0) = false := decide_eq_false (by omega)
  have d3 : decide (255 < ctl) = false := decide_eq_false (by omega)
  have d4 : decide (dest < 0) = false := decide_eq_false (by omega)
  have d5 : decide (65535 < dest) = true := decide_eq_true (by omega)
  clear h hl hb
  clear hx0
  go_enter Try.func7, Try.ntmps7
  go_wp2_with (first
    | (go_at_call 10
       have htok := hE0
       clear htok
       refine (HF.out (w.alloc (.cells #[.int .i64 ctl, .int .i64 dest, .int .i64 src, .slice A ds.length cap] 24)) cz).mono ?_
       rintro e w1 ⟨c1, rfl, he⟩
       have hE1 := hE0.trans he
       replace hb0 := hb0.ext he (by simp)
       replace hx := hx.ext he (by simp)
       obtain ⟨⟨k0b, k1b, k2b, k3b⟩, _⟩ := Link.Bx.four hb0
       clear hE0 he)
    | (go_at_call 11
       have htok := hE1
       clear htok
       refine (HE.out w1 c1 hx).mono ?_
       rintro e w2 ⟨tE, uE, c2, rfl, he⟩
       have hE2 := hE1.trans he
       replace hb0 := hb0.ext he (by simp)
       replace hx := hx.ext he (by simp)
       clear k0b k1b k2b k3b
       obtain ⟨⟨k0c, k1c, k2c, k3c⟩, _⟩ := Link.Bx.four hb0
       clear hE1 he)
    | (go_at_call 10
       have htok := hE2
       clear htok
       refine (HF.out w2 c2).mono ?_
       rintro e w3 ⟨c3, rfl, he⟩
       have hE3 := hE2.trans he
       replace hb0 := hb0.ext he (by simp)
       replace hx := hx.ext he (by simp)
       clear k0c k1c k2c k3c
       obtain ⟨⟨k0d, k1d, k2d, k3d⟩, _⟩ := Link.Bx.four hb0
       clear hE2 he))
  go_ret
  exact ⟨rfl, hE3.belowAll⟩

set_option maxRecDepth 100000 in
set_option maxHeartbeats 3200000 in
theorem sz_b5 (ctl dest src : Int) (ds : List Int) (A : Option Addr) (cap : Nat) (w : World) (hx0 : Rd (kint .u8) w (fun _ => 0) [0] (.slice A ds.length cap) ds) (hl : ds.length ≤ 6000) (HE : Hid (∀ w c, Rd (kint .u8) w c [0] (.slice A ds.length cap) ds → Calls Try.prog 11 #[.agg #[.int .i64 ctl, .int .i64 dest, .int .i64 src, .slice A ds.length cap]] w (EncBad w c))) (h : ds.length ≤ 250) (hb : ¬ ctl < 0 ∧ ¬ 255 < ctl ∧ ¬ dest < 0 ∧ ¬ 65535 < dest ∧ src < 0) :
    Calls Try.prog 7 #[.agg #[.int .i64 ctl, .int .i64 dest, .int .i64 src, .slice A ds.length cap]] w (GoodB w) := by
  have hF := fun w c => first_calls w c
  have HF := Lib.hid hF
  clear hF
  have hE0 := Ext.alloc [] w (fun _ => 0) (.cells #[.int .i64 ctl, .int .i64 dest, .int .i64 src, .slice A ds.length cap] 24) 1
  have hb0 := Bx.new w (fun _ => 0) 1 #[.int .i64 ctl, .int .i64 dest, .int .i64 src, .slice A ds.length cap] 24
  have hx := hx0.ext hE0 (by simp)
  generalize hcz : cx (fun _ => 0) w.heap.size 1 = cz at *
  clear hcz
  have d0 : decide ((6000 : Int) < ds.length) = false := decide_eq_false (by omega)
  have d1 : decide ((250 : Int) < ds.length) = false := decide_eq_false (by omega)
  have d2 : decide (ctl < 0) = false := decide_eq_false (by omega)
  have d3 : decide (255 < ctl) = false := decide_eq_false (by omega)
  have d4 : decide (dest < 0) = false := decide_eq_false (by omega)
  have d5 : decide (65535 < dest) = false := decide_eq_false (by omega)
  have d6 : decide (src < 0) = true := decide_eq_true (by omega)
  clear h hl hb
  clear hx0
  go_enter Try.func7, Try.ntmps7
  go_wp2_with (first
    | (go_at_call 10
       have htok := hE0
       clear htok
       refine (HF.out (w.alloc (.cells #[.int .i64 ctl, .int .i64 dest, .int .i64 src, .slice A ds.length cap] 24)) cz).mono ?_
       rintro e w1 ⟨c1, rfl, he⟩
       have hE1 := hE0.trans he
       replace hb0 := hb0.ext he (by simp)
       replace hx := hx.ext he (by simp)
       obtain ⟨⟨k0b, k1b, k2b, k3b⟩, _⟩ := Link.Bx.four hb0
       clear hE0 he)
    | (go_at_call 11
       have htok := hE1
       clear htok
       refine (HE.out w1 c1 hx).mono ?_
       rintro e w2 ⟨tE, uE, c2, rfl, he⟩
       have hE2 := hE1.trans he
       replace hb0 := hb0.ext he (by simp)
       replace hx := hx.ext he (by simp)
       clear k0b k1b k2b k3b
       obtain ⟨⟨k0c, k1c, k2c, k3c⟩, _⟩ := Link.Bx.four hb0
       clear hE1 he)
    | (go_at_call 10
       have htok := hE2
       clear htok
       refine (HF.out w2 c2).mono ?_
       rintro e w3 ⟨c3, rfl, he⟩
       have hE3 := hE2.trans he
       replace hb0 := hb0.ext he (by simp)
       replace hx := hx.ext he (by simp)
       clear k0c k1c k2c k3c
       obtain ⟨⟨k0d, k1d, k2d, k3d⟩, _⟩ := Link.Bx.four hb0
       clear hE2 he))
  go_ret
  exact ⟨rfl, hE3.belowAll⟩

set_option maxRecDepth 100000 in
set_option maxHeartbeats 3200000 in
theorem sz_b6 (ctl dest src : Int) (ds : List Int) (A : Option Addr) (cap : Nat) (w : World) (hx0 : Rd (kint .u8) w (fun _ => 0) [0] (.slice A ds.length cap) ds) (hl : ds.length ≤ 6000) (HE : Hid (∀ w c, Rd (kint .u8) w c [0] (.slice A ds.length cap) ds → Calls Try.prog 11 #[.agg #[.int .i64 ctl, .int .i64 dest, .int .i64 src, .slice A ds.length cap]] w (EncBad w c))) (h : ds.length ≤ 250) (hb : ¬ ctl < 0 ∧ ¬ 255 < ctl ∧ ¬ dest < 0 ∧ ¬ 65535 < dest ∧ ¬ src < 0 ∧ 65535 < src) :
    Calls Try.prog 7 #[.agg #[.int .i64 ctl, .int .i64 dest, .int .i64 src, .slice A ds.length cap]] w (GoodB w) := by
  have hF := fun w c => first_calls w c
  have HF := Lib.hid hF
  clear hF
  have hE0 := Ext.alloc [] w (fun _ => 0) (.cells #[.int .i64 ctl, .int .i64 dest, .int .i64 src, .slice A ds.length cap] 24) 1
  have hb0 := Bx.new w (fun _ => 0) 1 #[.int .i64 ctl, .int .i64 dest, .int .i64 src, .slice A ds.length cap] 24
  have hx := hx0.ext hE0 (by simp)
  generalize hcz : cx (fun _ => 0) w.heap.size 1 = cz at *
  clear hcz
  have d0 : decide ((6000 : Int) < ds.length) = false := decide_eq_false (by omega)
  have d1 : decide ((250 : Int) < ds.length) = false := decide_eq_false (by omega)
  have d2 : decide (ctl < 0) = false := decide_eq_false (by omega)
  have d3 : decide (255 < ctl) = false := decide_eq_false (by omega)
  have d4 : decide (dest < 0) = false := decide_eq_false (by omega)
  have d5 : decide (65535 < dest) = false := decide_eq_false (by omega)
  have d6 : decide (src < 0) = false := decide_eq_false (by omega)
  have d7 : decide (65535 < src) = true := decide_eq_true (by omega)
  clear h hl hb
  clear hx0
  go_enter Try.func7, Try.ntmps7
  go_wp2_with (first
    | (go_at_call 10
       have htok := hE0
       clear htok
       refine (HF.out (w.alloc (.cells #[.int .i64 ctl, .int .i64 dest, .int .i64 src, .slice A ds.length cap] 24)) cz).mono ?_
       rintro e w1 ⟨c1, rfl, he⟩
       have hE1 := hE0.trans he
       replace hb0 := hb0.ext he (by simp)
       replace hx := hx.ext he (by simp)
       obtain ⟨⟨k0b, k1b, k2b, k3b⟩, _⟩ := Link.Bx.four hb0
       clear hE0 he)
    | (go_at_call 11
       have htok := hE1
       clear htok
       refine (HE.out w1 c1 hx).mono ?_
       rintro e w2 ⟨tE, uE, c2, rfl, he⟩
       have hE2 := hE1.trans he
       replace hb0 := hb0.ext he (by simp)
       replace hx := hx.ext he (by simp)
       clear k0b k1b k2b k3b
       obtain ⟨⟨k0c, k1c, k2c, k3c⟩, _⟩ := Link.Bx.four hb0
       clear hE1 he)
    | (go_at_call 10
       have htok := hE2
       clear htok
       refine (HF.out w2 c2).mono ?_
       rintro e w3 ⟨c3, rfl, he⟩
       have hE3 := hE2.trans he
       replace hb0 := hb0.ext he (by simp)
       replace hx := hx.ext he (by simp)
       clear k0c k1c k2c k3c
       obtain ⟨⟨k0d, k1d, k2d, k3d⟩, _⟩ := Link.Bx.four hb0
       clear hE2 he))
  go_ret
  exact ⟨rfl, hE3.belowAll⟩

set_option maxRecDepth 100000 in
set_option maxHeartbeats 3200000 in
theorem sz_ok (ctl dest src : Int) (ds : List Int) (bs : List Int) (A : Option Addr) (cap : Nat) (w : World) (hx0 : Rd (kint .u8) w (fun _ => 0) [0] (.slice A ds.length cap) ds) (hl : ds.length ≤ 250) (HE : Hid (∀ w c, Rd (kint .u8) w c [0] (.slice A ds.length cap) ds → Calls Try.prog 11 #[.agg #[.int .i64 ctl, .int .i64 dest, .int .i64 src, .slice A ds.length cap]] w (EncOk bs w c 9))) (hbl : (bs.length : Int) = 10 + ds.length + 2 * (((ds.length : Int) + 15) / 16)) (y0 : bs[0]? = some 5) (y1 : bs[1]? = some 100) (y2 : bs[2]? = some (5 + (ds.length : Int))) (y3 : bs[3]? = some ctl) (hc : 0 ≤ ctl ∧ ctl ≤ 255) :
    Calls Try.prog 7 #[.agg #[.int .i64 ctl, .int .i64 dest, .int .i64 src, .slice A ds.length cap]] w (GoodB w) := by
  have hF := fun w c => first_calls w c
  have HF := Lib.hid hF
  clear hF
  have hE0 := Ext.alloc [] w (fun _ => 0) (.cells #[.int .i64 ctl, .int .i64 dest, .int .i64 src, .slice A ds.length cap] 24) 1
  have hb0 := Bx.new w (fun _ => 0) 1 #[.int .i64 ctl, .int .i64 dest, .int .i64 src, .slice A ds.length cap] 24
  have hx := hx0.ext hE0 (by simp)
  generalize hcz : cx (fun _ => 0) w.heap.size 1 = cz at *
  clear hcz
  have d0 : decide ((6000 : Int) < ds.length) = false := decide_eq_false (by omega)
  have Y0 := Lib.hid y0
  have Y1 := Lib.hid y1
  have Y2 := Lib.hid y2
  have Y3 := Lib.hid y3
  have HB := Lib.hid hbl
  clear y0 y1 y2 y3 hbl hx0
  go_enter Try.func7, Try.ntmps7
  go_wp2_with (first
    | (go_at_call 10
       have htok := hE0
       clear htok
       refine (HF.out (w.alloc (.cells #[.int .i64 ctl, .int .i64 dest, .int .i64 src, .slice A ds.length cap] 24)) cz).mono ?_
       rintro e w1 ⟨c1, rfl, he⟩
       have hE1 := hE0.trans he
       replace hb0 := hb0.ext he (by simp)
       replace hx := hx.ext he (by simp)
       obtain ⟨⟨k0b, k1b, k2b, k3b⟩, _⟩ := Link.Bx.four hb0
       clear hE0 he)
    | (go_at_call 11
       have htok := hE1
       clear htok
       refine (HE.out w1 c1 hx).mono ?_
       rintro e w2 ⟨A2, cap2, c2, rfl, ho, he⟩
       have hE2 := hE1.trans he
       replace hb0 := hb0.ext he (by simp)
       replace hx := hx.ext he (by simp)
       have hr : Rd (kint .u8) w2 c2 [9] (.slice A2 bs.length cap2) bs := ho.rd (by simp) (by simp)
       clear hE1 he ho k0b k1b k2b k3b
       obtain ⟨⟨k0, k1, k2, k3⟩, _⟩ := Link.Bx.four hb0))
  obtain ⟨B, o', rfl⟩ := rd_addr hr (by have := HB.out; omega)
  have l0 : (0 : Int) < bs.length := by have := HB.out; omega
  have l0n : 0 < bs.length := by have := HB.out; omega
  have l1 : (1 : Int) < bs.length := by have := HB.out; omega
  have l2 : (2 : Int) < bs.length := by have := HB.out; omega
  have l3 : (3 : Int) < bs.length := by have := HB.out; omega
  have q0 := rd_cellAt hr 0 Y0.out
  have q1 := rd_cellAt hr 1 Y1.out
  have q2 := rd_cellAt hr 2 Y2.out
  have q3 := rd_cellAt hr 3 Y3.out
  simp only [Nat.add_zero] at q0
  clear k1 k2 k3
  have s1 : IntKind.i64.wrap (10 + (ds.length : Int)) = 10 + ds.length := i64id (by omega) (by omega)
  have s2 : IntKind.i64.wrap ((ds.length : Int) + 15) = ds.length + 15 := i64id (by omega) (by omega)
  have s3 : Int.tdiv ((ds.length : Int) + 15) 16 = ((ds.length : Int) + 15) / 16 := Int.tdiv_eq_ediv_of_nonneg (by omega)
  have s4 : IntKind.i64.wrap (((ds.length : Int) + 15) / 16) = ((ds.length : Int) + 15) / 16 := i64id (by omega) (by omega)
  have s5 : IntKind.i64.wrap (2 * (((ds.length : Int) + 15) / 16)) = 2 * (((ds.length : Int) + 15) / 16) := i64id (by omega) (by omega)
  have s6 : IntKind.i64.wrap (10 + (ds.length : Int) + 2 * (((ds.length : Int) + 15) / 16)) = bs.length := by rw [HB.out]; exact i64id (by omega) (by omega)
  have s7 : IntKind.i64.wrap ((ds.length : Int) + 5) = 5 + ds.length := by rw [i64id (by omega) (by omega)]; omega
  have s8 : IntKind.i64.wrap (5 + (ds.length : Int)) = 5 + ds.length := i64id (by omega) (by omega)
  have s9 : IntKind.i64.wrap ctl = ctl := i64id (by omega) (by omega)
  clear hb0 hx hr hl hc
  go_region_held3 (fun w' => w'.cell? ⟨B, o', none⟩ = some (.int .u8 5) ∧ w'.cell? ⟨B, o' + 1, none⟩ = some (.int .u8 100) ∧ w'.cell? ⟨B, o' + 2, none⟩ = some (.int .u8 (5 + (ds.length : Int))) ∧ w'.cell? ⟨B, o' + 3, none⟩ = some (.int .u8 ctl) ∧ w'.cell? ⟨w.heap.size, 0, none⟩ = some (.int .i64 ctl)) (go_keep) (first
    | (go_at_call 10
       have htok := hE2
       clear htok
       have hal := (Ext.refl [] w2 c2).drew
       replace hE2 := hE2.trans hal
       refine (HF.out _ c2).mono ?_
       rintro e w3 ⟨c3, rfl, he⟩
       have hE3 := hE2.trans he
       replace he := hal.trans he
       replace q0 := he.cell q0 (by simp)
       replace q1 := he.cell q1 (by simp)
       replace q2 := he.cell q2 (by simp)
       replace q3 := he.cell q3 (by simp)
       replace k0 := he.cell k0 (by simp)
       clear hE2 he hal))
  go_wp2
  go_ret
  exact ⟨rfl, hE3.belowAll⟩
theorem sizes_walk (ctl dest src : Int) (ds : List Int) (A : Option Addr) (cap : Nat) (w : World) (hx : Rd (kint .u8) w (fun _ => 0) [0] (.slice A ds.length cap) ds) :
    Calls Try.prog 7 #[.agg #[.int .i64 ctl, .int .i64 dest, .int .i64 src, .slice A ds.length cap]] w (GoodB w) := by
  by_cases hl : 6000 < ds.length
  · exact sz_long ctl dest src ds A cap w hx hl
  by_cases hm : Fr.may ⟨ctl, dest, src, ds⟩ ∧ ds.length ≤ 250
  · obtain ⟨⟨m1, m2, m3, m4, m5, m6⟩, hd⟩ := hm
    have hlen := enc_len ⟨ctl, dest, src, ds⟩
    have hg := fun i (h : i < 8) => (show (encB ⟨ctl, dest, src, ds⟩)[i]? = (hdrV ⟨ctl, dest, src, ds⟩)[i]? by
      rw [enc_eq, List.append_assoc, List.getElem?_append_left (by rw [hdr_len]; exact h)])
    exact sz_ok ctl dest src ds (encB ⟨ctl, dest, src, ds⟩) A cap w hx hd (fun w c hr => enc_ok ctl dest src ds A cap w c [0] 9 (by simp) hr m1 m2 m3 m4 m5 m6 hd)
      (by rw [hlen]; unfold sizeV; simp only; omega) (hg 0 (by omega)) (hg 1 (by omega)) (hg 2 (by omega)) (hg 3 (by omega)) ⟨m1, m2⟩
  · have HE : Hid (∀ w c, Rd (kint .u8) w c [0] (.slice A ds.length cap) ds → Calls Try.prog 11 #[.agg #[.int .i64 ctl, .int .i64 dest, .int .i64 src, .slice A ds.length cap]] w (EncBad w c)) := fun w c hr => enc_bad ctl dest src ds A cap w c [0] 9 (by simp) hr hm
    by_cases h0 : 250 < ds.length
    · exact sz_b0 ctl dest src ds A cap w hx (by omega) HE h0
    by_cases h1 : ctl < 0
    · exact sz_b1 ctl dest src ds A cap w hx (by omega) HE (by omega) h1
    by_cases h2 : 255 < ctl
    · exact sz_b2 ctl dest src ds A cap w hx (by omega) HE (by omega) ⟨h1, h2⟩
    by_cases h3 : dest < 0
    · exact sz_b3 ctl dest src ds A cap w hx (by omega) HE (by omega) ⟨h1, h2, h3⟩
    by_cases h4 : 65535 < dest
    · exact sz_b4 ctl dest src ds A cap w hx (by omega) HE (by omega) ⟨h1, h2, h3, h4⟩
    by_cases h5 : src < 0
    · exact sz_b5 ctl dest src ds A cap w hx (by omega) HE (by omega) ⟨h1, h2, h3, h4, h5⟩
    by_cases h6 : 65535 < src
    · exact sz_b6 ctl dest src ds A cap w hx (by omega) HE (by omega) ⟨h1, h2, h3, h4, h5, h6⟩
    exact absurd ⟨⟨by simp only; omega, by simp only; omega, by simp only; omega, by simp only; omega, by simp only; omega, by simp only; omega⟩, by omega⟩ hm

end Go.Proofs.Ytkchcihglpcmiaa.Link
