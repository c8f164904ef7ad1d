/- The walk of LinkBack. -/
import Derived.Test.YtkchcihglpcmiaaLsz
import Derived.Test.YtkchcihglpcmiaaLcrc
namespace Go.Proofs.Ytkchcihglpcmiaa.Link
open Go.RowKit Go.Proofs.Ytkchcihglpcmiaa.Sk Go.Proofs.Ytkchcihglpcmiaa.Num Go.Proofs.Ytkchcihglpcmiaa.Wire Go.Proofs.Ytkchcihglpcmiaa.PLk
open Go.Proofs.YtkchcihglpcmiaaW.PrintWords Go.Proofs.YtkchcihglpcmiaaW.PrintLast Go.Proofs.YtkchcihglpcmiaaW.PrintMore

theorem ofInt8 (m : Nat) : BitVec.ofInt 8 (m : Int) = BitVec.ofNat 8 m := by
  apply BitVec.eq_of_toInt_eq
  simp
theorem bxor8 (m n : Nat) (hm : m < 256) (hn : n < 256) : Go.bits .xor .u8 (m : Int) (n : Int) = ((m ^^^ n : Nat) : Int) := by
  have e : Go.bits .xor .u8 (m : Int) (n : Int) = IntKind.u8.wrap (((BitVec.ofInt 8 (m : Int)) ^^^ (BitVec.ofInt 8 (n : Int))).toNat : Int) := rfl
  have hx : m ^^^ n < 2 ^ 8 := Nat.xor_lt_two_pow hm hn
  rw [e, ofInt8, ofInt8, BitVec.toNat_xor, BitVec.toNat_ofNat, BitVec.toNat_ofNat, Nat.mod_eq_of_lt (by omega), Nat.mod_eq_of_lt (by omega), u8wrap]
  omega
theorem flip_bit (x : Int) (h : 0 ≤ x ∧ x ≤ 255) (k : Nat) : (0 ≤ Go.bits .xor .u8 x (2 ^ (k % 8) % 256) ∧ Go.bits .xor .u8 x (2 ^ (k % 8) % 256) ≤ 255) ∧ Go.bits .xor .u8 x (2 ^ (k % 8) % 256) ≠ x := by
  obtain ⟨m, rfl⟩ := Int.eq_ofNat_of_zero_le h.1
  have hm : m < 256 := by have := h.2; omega
  have hk : k % 8 < 8 := Nat.mod_lt _ (by decide)
  generalize k % 8 = j at *
  obtain ⟨n, hn, hn1, hn2⟩ : ∃ n : Nat, (2 : Int) ^ j % 256 = n ∧ n < 256 ∧ n ≠ 0 := by
    obtain rfl | rfl | rfl | rfl | rfl | rfl | rfl | rfl : j = 0 ∨ j = 1 ∨ j = 2 ∨ j = 3 ∨ j = 4 ∨ j = 5 ∨ j = 6 ∨ j = 7 := by omega
    · exact ⟨1, by decide, by decide, by decide⟩
    · exact ⟨2, by decide, by decide, by decide⟩
    · exact ⟨4, by decide, by decide, by decide⟩
    · exact ⟨8, by decide, by decide, by decide⟩
    · exact ⟨16, by decide, by decide, by decide⟩
    · exact ⟨32, by decide, by decide, by decide⟩
    · exact ⟨64, by decide, by decide, by decide⟩
    · exact ⟨128, by decide, by decide, by decide⟩
  rw [hn, bxor8 m n hm hn1]
  have hx : m ^^^ n < 2 ^ 8 := Nat.xor_lt_two_pow hm hn1
  refine ⟨⟨by omega, by omega⟩, fun e => ?_⟩
  have e' : m ^^^ n = m := Int.ofNat.inj e
  have h1 := congrArg (· ^^^ m) e'
  have h2 : (m ^^^ n) ^^^ m = m ^^^ m := h1
  rw [Nat.xor_comm m n, xor_back, Nat.xor_self] at h2
  exact hn2 h2

set_option maxRecDepth 100000 in
set_option maxHeartbeats 6400000 in
theorem bk_long (ctl dest src : Int) (ds : List Int) (A : Option Addr) (cap : Nat) (xs : List Int) (A1 : Option Addr) (cap1 : Nat) (bit : Int) (w : World) (hd0 : Rd (kint .u8) w (fun _ => 0) [0] (.slice A ds.length cap) ds) (hx0 : Rd (kint .u8) w (fun _ => 0) [0] (.slice A1 xs.length cap1) xs) (hl : 6000 < ds.length) :
    Calls Try.prog 3 #[.agg #[.int .i64 ctl, .int .i64 dest, .int .i64 src, .slice A ds.length cap], .slice A1 xs.length cap1, .int .i64 bit] w (GoodB w) := by
  have hF := fun w c => first_calls w c
  have HF := Lib.hid hF
  clear hF
  have hE0 := Ext.alloc [] w (fun _ => 0) (.cells #[.int .i64 ctl, .int .i64 dest, .int .i64 src, .slice A ds.length cap] 24) 1
  have hb0 := Bx.new w (fun _ => 0) 1 #[.int .i64 ctl, .int .i64 dest, .int .i64 src, .slice A ds.length cap] 24
  have hx := hx0.ext hE0 (by simp)
  have hd := hd0.ext hE0 (by simp)
  generalize hcz : cx (fun _ => 0) w.heap.size 1 = cz at *
  clear hcz hx0 hd0
  have d0 : decide ((6000 : Int) < ds.length) = true := decide_eq_true (by omega)
  clear hl
  go_enter Try.func3, Try.ntmps3
  go_wp2_with (first
    | (go_at_call 10
       have htok := hE0
       clear htok
       refine (HF.out (w.alloc (.cells #[.int .i64 ctl, .int .i64 dest, .int .i64 src, .slice A ds.length cap] 24)) cz).mono ?_
       rintro e w1 ⟨c1, rfl, he⟩
       have hE1 := hE0.trans he
       replace hb0 := hb0.ext he (by simp)
       replace hx := hx.ext he (by simp)
       replace hd := hd.ext he (by simp)
       clear hE0 he
       obtain ⟨⟨k0b, k1b, k2b, k3b⟩, _⟩ := Link.Bx.four hb0
       have ltb := blkLt hb0.1)
    | (go_at_call 10
       have htok := hE1
       clear htok
       refine (HF.out w1 c1).mono ?_
       rintro e w2 ⟨c2, rfl, he⟩
       have hE2 := hE1.trans he
       replace hb0 := hb0.ext he (by simp)
       replace hx := hx.ext he (by simp)
       replace hd := hd.ext he (by simp)
       clear hE1 he
       clear k0b k1b k2b k3b ltb
       obtain ⟨⟨k0c, k1c, k2c, k3c⟩, _⟩ := Link.Bx.four hb0
       have ltc := blkLt hb0.1))
  go_ret
  exact ⟨rfl, hE2.belowAll⟩

set_option maxRecDepth 100000 in
set_option maxHeartbeats 6400000 in
theorem bk_big (ctl dest src : Int) (ds : List Int) (A : Option Addr) (cap : Nat) (xs : List Int) (A1 : Option Addr) (cap1 : Nat) (bit : Int) (w : World) (hd0 : Rd (kint .u8) w (fun _ => 0) [0] (.slice A ds.length cap) ds) (hx0 : Rd (kint .u8) w (fun _ => 0) [0] (.slice A1 xs.length cap1) xs) (hl : ds.length ≤ 6000) (hl2 : 6000 < xs.length) :
    Calls Try.prog 3 #[.agg #[.int .i64 ctl, .int .i64 dest, .int .i64 src, .slice A ds.length cap], .slice A1 xs.length cap1, .int .i64 bit] w (GoodB w) := by
  have hF := fun w c => first_calls w c
  have HF := Lib.hid hF
  clear hF
  have hE0 := Ext.alloc [] w (fun _ => 0) (.cells #[.int .i64 ctl, .int .i64 dest, .int .i64 src, .slice A ds.length cap] 24) 1
  have hb0 := Bx.new w (fun _ => 0) 1 #[.int .i64 ctl, .int .i64 dest, .int .i64 src, .slice A ds.length cap] 24
  have hx := hx0.ext hE0 (by simp)
  have hd := hd0.ext hE0 (by simp)
  generalize hcz : cx (fun _ => 0) w.heap.size 1 = cz at *
  clear hcz hx0 hd0
  have d0 : decide ((6000 : Int) < ds.length) = false := decide_eq_false (by omega)
  have d1 : decide ((6000 : Int) < xs.length) = true := decide_eq_true (by omega)
  clear hl hl2
  go_enter Try.func3, Try.ntmps3
  go_wp2_with (first
    | (go_at_call 10
       have htok := hE0
       clear htok
       refine (HF.out (w.alloc (.cells #[.int .i64 ctl, .int .i64 dest, .int .i64 src, .slice A ds.length cap] 24)) cz).mono ?_
       rintro e w1 ⟨c1, rfl, he⟩
       have hE1 := hE0.trans he
       replace hb0 := hb0.ext he (by simp)
       replace hx := hx.ext he (by simp)
       replace hd := hd.ext he (by simp)
       clear hE0 he
       obtain ⟨⟨k0b, k1b, k2b, k3b⟩, _⟩ := Link.Bx.four hb0
       have ltb := blkLt hb0.1)
    | (go_at_call 10
       have htok := hE1
       clear htok
       refine (HF.out w1 c1).mono ?_
       rintro e w2 ⟨c2, rfl, he⟩
       have hE2 := hE1.trans he
       replace hb0 := hb0.ext he (by simp)
       replace hx := hx.ext he (by simp)
       replace hd := hd.ext he (by simp)
       clear hE1 he
       clear k0b k1b k2b k3b ltb
       obtain ⟨⟨k0c, k1c, k2c, k3c⟩, _⟩ := Link.Bx.four hb0
       have ltc := blkLt hb0.1))
  go_ret
  exact ⟨rfl, hE2.belowAll⟩

set_option maxRecDepth 100000 in
set_option maxHeartbeats 6400000 in
theorem bk_bad_none (ctl dest src : Int) (ds : List Int) (A : Option Addr) (cap : Nat) (xs : List Int) (A1 : Option Addr) (cap1 : Nat) (bit : Int) (w : World) (hd0 : Rd (kint .u8) w (fun _ => 0) [0] (.slice A ds.length cap) ds) (hx0 : Rd (kint .u8) w (fun _ => 0) [0] (.slice A1 xs.length cap1) xs) (hl : ds.length ≤ 6000) (hl2 : xs.length ≤ 6000) (HE : Hid (∀ w c, Rd (kint .u8) w c [0] (.slice A ds.length cap) ds → Calls Try.prog 11 #[.agg #[.int .i64 ctl, .int .i64 dest, .int .i64 src, .slice A ds.length cap]] w (EncBad w c))) (hdb : decodeV xs = none) :
    Calls Try.prog 3 #[.agg #[.int .i64 ctl, .int .i64 dest, .int .i64 src, .slice A ds.length cap], .slice A1 xs.length cap1, .int .i64 bit] w (GoodB w) := by
  have hF := fun w c => first_calls w c
  have HF := Lib.hid hF
  clear hF
  have hE0 := Ext.alloc [] w (fun _ => 0) (.cells #[.int .i64 ctl, .int .i64 dest, .int .i64 src, .slice A ds.length cap] 24) 1
  have hb0 := Bx.new w (fun _ => 0) 1 #[.int .i64 ctl, .int .i64 dest, .int .i64 src, .slice A ds.length cap] 24
  have hx := hx0.ext hE0 (by simp)
  have hd := hd0.ext hE0 (by simp)
  generalize hcz : cx (fun _ => 0) w.heap.size 1 = cz at *
  clear hcz hx0 hd0
  have d0 : decide ((6000 : Int) < ds.length) = false := decide_eq_false (by omega)
  have d1 : decide ((6000 : Int) < xs.length) = false := decide_eq_false (by omega)
  have HD := Lib.hid hdb
  clear hdb
  go_enter Try.func3, Try.ntmps3
  go_wp2_with (first
    | (go_at_call 10
       have htok := hE0
       clear htok
       refine (HF.out (w.alloc (.cells #[.int .i64 ctl, .int .i64 dest, .int .i64 src, .slice A ds.length cap] 24)) cz).mono ?_
       rintro e w1 ⟨c1, rfl, he⟩
       have hE1 := hE0.trans he
       replace hb0 := hb0.ext he (by simp)
       replace hx := hx.ext he (by simp)
       replace hd := hd.ext he (by simp)
       clear hE0 he
       obtain ⟨⟨k0b, k1b, k2b, k3b⟩, _⟩ := Link.Bx.four hb0
       have ltb := blkLt hb0.1)
    | (go_at_call 11
       have htok := hE1
       clear htok
       refine (HE.out w1 c1 hd).mono ?_
       rintro e w2 ⟨tE, uE, c2, rfl, he⟩
       have hE2 := hE1.trans he
       clear hb0 hd
       replace hx := hx.ext he (by simp)
       clear hE1 he
       clear k0b k1b k2b k3b ltb)
    | (go_at_call 12
       have htok := hE2
       clear htok
       have hQ := decode_calls xs A1 cap1 w2 c2 [0] hx (by omega) (by simp)
       unfold DecP at hQ
       rw [HD.out] at hQ
       refine (hQ).mono ?_
       rintro e w3 ⟨tD, uD, c3, rfl, he⟩
       have hE3 := hE2.trans he
       clear hx
       clear hQ
       clear hE2 he)
    | (go_at_call 10
       have htok := hE3
       clear htok
       have hal := Ext.alloc [] w3 c3 (.cells #[.int .i64 0, .int .i64 0, .int .i64 0, .slice none 0 0] 24) 1
       replace hE3 := hE3.trans hal
       clear hal
       generalize cx c3 w3.heap.size 1 = d4 at *
       generalize w3.alloc (.cells #[.int .i64 0, .int .i64 0, .int .i64 0, .slice none 0 0] 24) = v4 at *
       refine (HF.out v4 d4).mono ?_
       rintro e w5 ⟨c5, rfl, he⟩
       have hE5 := hE3.trans he
       clear hE3 he))
  go_ret
  exact ⟨rfl, hE5.belowAll⟩

set_option maxRecDepth 100000 in
set_option maxHeartbeats 6400000 in
theorem bk_bad_ok (ctl dest src : Int) (ds : List Int) (A : Option Addr) (cap : Nat) (xs : List Int) (A1 : Option Addr) (cap1 : Nat) (bit : Int) (g0 g1 g2 : Int) (gd : List Int) (w : World) (hd0 : Rd (kint .u8) w (fun _ => 0) [0] (.slice A ds.length cap) ds) (hx0 : Rd (kint .u8) w (fun _ => 0) [0] (.slice A1 xs.length cap1) xs) (hl : ds.length ≤ 6000) (hl2 : xs.length ≤ 6000) (HE : Hid (∀ w c, Rd (kint .u8) w c [0] (.slice A ds.length cap) ds → Calls Try.prog 11 #[.agg #[.int .i64 ctl, .int .i64 dest, .int .i64 src, .slice A ds.length cap]] w (EncBad w c))) (hdb : decodeV xs = some ⟨g0, g1, g2, gd⟩) (HG : Hid (∀ w c A cap, Rd (kint .u8) w c [7] (.slice A gd.length cap) gd → Calls Try.prog 11 #[.agg #[.int .i64 g0, .int .i64 g1, .int .i64 g2, .slice A gd.length cap]] w (EncOk xs w c 9))) :
    Calls Try.prog 3 #[.agg #[.int .i64 ctl, .int .i64 dest, .int .i64 src, .slice A ds.length cap], .slice A1 xs.length cap1, .int .i64 bit] w (GoodB w) := by
  have hF := fun w c => first_calls w c
  have HF := Lib.hid hF
  clear hF
  have hE0 := Ext.alloc [] w (fun _ => 0) (.cells #[.int .i64 ctl, .int .i64 dest, .int .i64 src, .slice A ds.length cap] 24) 1
  have hb0 := Bx.new w (fun _ => 0) 1 #[.int .i64 ctl, .int .i64 dest, .int .i64 src, .slice A ds.length cap] 24
  have hx := hx0.ext hE0 (by simp)
  have hd := hd0.ext hE0 (by simp)
  generalize hcz : cx (fun _ => 0) w.heap.size 1 = cz at *
  clear hcz hx0 hd0
  have d0 : decide ((6000 : Int) < ds.length) = false := decide_eq_false (by omega)
  have d1 : decide ((6000 : Int) < xs.length) = false := decide_eq_false (by omega)
  have HD := Lib.hid hdb
  clear hdb
  go_enter Try.func3, Try.ntmps3
  go_wp2_with (first
    | (go_at_call 10
       have htok := hE0
       clear htok
       refine (HF.out (w.alloc (.cells #[.int .i64 ctl, .int .i64 dest, .int .i64 src, .slice A ds.length cap] 24)) cz).mono ?_
       rintro e w1 ⟨c1, rfl, he⟩
       have hE1 := hE0.trans he
       replace hb0 := hb0.ext he (by simp)
       replace hx := hx.ext he (by simp)
       replace hd := hd.ext he (by simp)
       clear hE0 he
       obtain ⟨⟨k0b, k1b, k2b, k3b⟩, _⟩ := Link.Bx.four hb0
       have ltb := blkLt hb0.1)
    | (go_at_call 11
       have htok := hE1
       clear htok
       refine (HE.out w1 c1 hd).mono ?_
       rintro e w2 ⟨tE, uE, c2, rfl, he⟩
       have hE2 := hE1.trans he
       clear hb0 hd
       replace hx := hx.ext he (by simp)
       clear hE1 he
       clear k0b k1b k2b k3b ltb)
    | (go_at_call 12
       have htok := hE2
       clear htok
       have hQ := decode_calls xs A1 cap1 w2 c2 [0] hx (by omega) (by simp)
       unfold DecP at hQ
       rw [HD.out] at hQ
       refine (hQ).mono ?_
       rintro e w3 ⟨v6, c3, rfl, ho6, he⟩
       have hE3 := hE2.trans he
       replace hx := hx.ext he (by simp)
       obtain ⟨A6, cap6, rfl⟩ := ho6.slice
       have hr6 : Rd (kint .u8) w3 c3 [7] (.slice A6 gd.length cap6) gd := ho6.rd (by simp) (by simp)
       clear hQ ho6
       clear hE2 he)
    | (go_at_call 11
       have htok := hE3
       clear htok
       have hal := Ext.alloc [] w3 c3 (.cells #[.int .i64 g0, .int .i64 g1, .int .i64 g2, .slice A6 gd.length cap6] 24) 1
       replace hx := hx.ext hal (by simp)
       replace hr6 := hr6.ext hal (by simp)
       replace hE3 := hE3.trans hal
       clear hal
       generalize cx c3 w3.heap.size 1 = d4 at *
       generalize w3.alloc (.cells #[.int .i64 g0, .int .i64 g1, .int .i64 g2, .slice A6 gd.length cap6] 24) = v4 at *
       refine (HG.out v4 d4 A6 cap6 hr6).mono ?_
       rintro e w5 ⟨A8, cap8, c5, rfl, ho8, he⟩
       have hE5 := hE3.trans he
       clear hr6
       replace hx := hx.ext he (by simp)
       have hr8 : Rd (kint .u8) w5 c5 [0, 9] (.slice A8 xs.length cap8) xs := ho8.rd (by simp) (by simp)
       clear ho8
       clear hE3 he)
    | (go_at_call 10
       have htok := hE5
       clear htok
       refine (HF.out w5 c5).mono ?_
       rintro e w6 ⟨c6, rfl, he⟩
       have hE6 := hE5.trans he
       replace hx := hx.ext he (by simp)
       replace hr8 := hr8.ext he (by simp)
       clear hE5 he)
    | (go_at_call 14
       have htok := hE6
       clear htok
       refine (bytes_same xs A8 A1 cap8 cap1 w6 c6 [0, 9] hr8 (hx.mono (by simp))).mono ?_
       rintro e w7 ⟨rfl, he⟩
       have hE7 := hE6.trans he
       clear hr8 hx
       clear hE6 he))
  go_ret
  exact ⟨rfl, hE7.belowAll⟩

set_option maxRecDepth 100000 in
set_option maxHeartbeats 6400000 in
theorem bk_ok_none (ctl dest src : Int) (ds : List Int) (A : Option Addr) (cap : Nat) (xs : List Int) (A1 : Option Addr) (cap1 : Nat) (bit : Int) (bs : List Int) (w : World) (hd0 : Rd (kint .u8) w (fun _ => 0) [0] (.slice A ds.length cap) ds) (hx0 : Rd (kint .u8) w (fun _ => 0) [0] (.slice A1 xs.length cap1) xs) (hl : ds.length ≤ 6000) (hl2 : xs.length ≤ 6000) (HE : Hid (∀ w c, Rd (kint .u8) w c [0] (.slice A ds.length cap) ds → Calls Try.prog 11 #[.agg #[.int .i64 ctl, .int .i64 dest, .int .i64 src, .slice A ds.length cap]] w (EncOk bs w c 9))) (hbl : 10 ≤ bs.length ∧ bs.length ≤ 292) (hdx : decodeV bs = some ⟨ctl, dest, src, ds⟩) (hbit : bit < 0) (hdb : decodeV xs = none) :
    Calls Try.prog 3 #[.agg #[.int .i64 ctl, .int .i64 dest, .int .i64 src, .slice A ds.length cap], .slice A1 xs.length cap1, .int .i64 bit] w (GoodB w) := by
  have hF := fun w c => first_calls w c
  have HF := Lib.hid hF
  clear hF
  have hE0 := Ext.alloc [] w (fun _ => 0) (.cells #[.int .i64 ctl, .int .i64 dest, .int .i64 src, .slice A ds.length cap] 24) 1
  have hb0 := Bx.new w (fun _ => 0) 1 #[.int .i64 ctl, .int .i64 dest, .int .i64 src, .slice A ds.length cap] 24
  have hx := hx0.ext hE0 (by simp)
  have hd := hd0.ext hE0 (by simp)
  generalize hcz : cx (fun _ => 0) w.heap.size 1 = cz at *
  clear hcz hx0 hd0
  have d0 : decide ((6000 : Int) < ds.length) = false := decide_eq_false (by omega)
  have d1 : decide ((6000 : Int) < xs.length) = false := decide_eq_false (by omega)
  have d2 : decide ((292 : Int) < bs.length) = false := decide_eq_false (by omega)
  have HB := Lib.hid hbl
  have HX := Lib.hid hdx
  clear hbl hdx
  have d3 : decide (0 ≤ bit) = false := decide_eq_false (by omega)
  clear hbit
  have HD := Lib.hid hdb
  clear hdb
  go_enter Try.func3, Try.ntmps3
  go_wp2_with (first
    | (go_at_call 10
       have htok := hE0
       clear htok
       refine (HF.out (w.alloc (.cells #[.int .i64 ctl, .int .i64 dest, .int .i64 src, .slice A ds.length cap] 24)) cz).mono ?_
       rintro e w1 ⟨c1, rfl, he⟩
       have hE1 := hE0.trans he
       replace hb0 := hb0.ext he (by simp)
       replace hx := hx.ext he (by simp)
       replace hd := hd.ext he (by simp)
       clear hE0 he
       obtain ⟨⟨k0b, k1b, k2b, k3b⟩, _⟩ := Link.Bx.four hb0
       have ltb := blkLt hb0.1)
    | (go_at_call 11
       have htok := hE1
       clear htok
       refine (HE.out w1 c1 hd).mono ?_
       rintro e w2 ⟨A2, cap2, c2, rfl, ho, he⟩
       have hE2 := hE1.trans he
       replace hb0 := hb0.ext he (by simp)
       replace hx := hx.ext he (by simp)
       replace hd := hd.ext he (by simp)
       replace ho := ho.base (β' := w.heap.size) hE1.size
       clear hE1 he
       clear k0b k1b k2b k3b ltb
       obtain ⟨⟨k0c, k1c, k2c, k3c⟩, _⟩ := Link.Bx.four hb0
       have ltc := blkLt hb0.1)
    | (go_at_call 12
       have htok := hE2
       clear htok
       have hQ := decode_calls bs A2 cap2 w2 c2 [9] (ho.rd (by simp) (by simp)) (by have := HB.out; omega) (by simp)
       unfold DecP at hQ
       rw [HX.out] at hQ
       refine (hQ).mono ?_
       rintro e w3 ⟨v7, c3, rfl, ho7, he⟩
       have hE3 := hE2.trans he
       replace hb0 := hb0.ext he (by simp)
       replace hx := hx.ext he (by simp)
       replace hd := hd.ext he (by simp)
       replace ho := ho.ext he (by simp) (by simp)
       obtain ⟨A7, cap7, rfl⟩ := ho7.slice
       have hr7 : Rd (kint .u8) w3 c3 [7] (.slice A7 ds.length cap7) ds := ho7.rd (by simp) (by simp)
       clear hQ ho7
       clear hE2 he
       clear k0c k1c k2c k3c ltc
       obtain ⟨⟨k0d, k1d, k2d, k3d⟩, _⟩ := Link.Bx.four hb0
       have ltd := blkLt hb0.1)
    | (go_at_call 13
       have htok := hE3
       clear htok
       have hal := Ext.alloc [] w3 c3 (.cells #[.int .i64 ctl, .int .i64 dest, .int .i64 src, .slice A7 ds.length cap7] 24) 1
       replace hb0 := hb0.ext hal (by simp)
       replace hx := hx.ext hal (by simp)
       replace hd := hd.ext hal (by simp)
       replace ho := ho.ext hal (by simp) (by simp)
       replace hr7 := hr7.ext hal (by simp)
       replace hE3 := hE3.trans hal
       clear hal
       generalize cx c3 w3.heap.size 1 = d4 at *
       generalize w3.alloc (.cells #[.int .i64 ctl, .int .i64 dest, .int .i64 src, .slice A7 ds.length cap7] 24) = v4 at *
       refine (same_calls ⟨ctl, dest, src, ds⟩ A7 A cap7 cap v4 d4 [7] [0] hr7 hd).mono ?_
       rintro e w5 ⟨c5, rfl, he⟩
       have hE5 := hE3.trans he
       clear hr7 hd hb0
       replace hx := hx.ext he (by simp)
       replace ho := ho.ext he (by simp) (by simp)
       clear hE3 he
       clear k0d k1d k2d k3d ltd)
    | (go_at_call 12
       have htok := hE5
       clear htok
       clear ho
       have hQ := decode_calls xs A1 cap1 w5 c5 [0] hx (by omega) (by simp)
       unfold DecP at hQ
       rw [HD.out] at hQ
       refine (hQ).mono ?_
       rintro e w6 ⟨tD, uD, c6, rfl, he⟩
       have hE6 := hE5.trans he
       clear hx
       clear hQ
       clear hE5 he)
    | (go_at_call 10
       have htok := hE6
       clear htok
       have hal := Ext.alloc [] w6 c6 (.cells #[.int .i64 0, .int .i64 0, .int .i64 0, .slice none 0 0] 24) 1
       replace hE6 := hE6.trans hal
       clear hal
       generalize cx c6 w6.heap.size 1 = d7 at *
       generalize w6.alloc (.cells #[.int .i64 0, .int .i64 0, .int .i64 0, .slice none 0 0] 24) = v7 at *
       refine (HF.out v7 d7).mono ?_
       rintro e w8 ⟨c8, rfl, he⟩
       have hE8 := hE6.trans he
       clear hE6 he))
  go_ret
  exact ⟨rfl, hE8.belowAll⟩

set_option maxRecDepth 100000 in
set_option maxHeartbeats 6400000 in
theorem bk_ok_ok (ctl dest src : Int) (ds : List Int) (A : Option Addr) (cap : Nat) (xs : List Int) (A1 : Option Addr) (cap1 : Nat) (bit : Int) (bs : List Int) (g0 g1 g2 : Int) (gd : List Int) (w : World) (hd0 : Rd (kint .u8) w (fun _ => 0) [0] (.slice A ds.length cap) ds) (hx0 : Rd (kint .u8) w (fun _ => 0) [0] (.slice A1 xs.length cap1) xs) (hl : ds.length ≤ 6000) (hl2 : xs.length ≤ 6000) (HE : Hid (∀ w c, Rd (kint .u8) w c [0] (.slice A ds.length cap) ds → Calls Try.prog 11 #[.agg #[.int .i64 ctl, .int .i64 dest, .int .i64 src, .slice A ds.length cap]] w (EncOk bs w c 9))) (hbl : 10 ≤ bs.length ∧ bs.length ≤ 292) (hdx : decodeV bs = some ⟨ctl, dest, src, ds⟩) (hbit : bit < 0) (hdb : decodeV xs = some ⟨g0, g1, g2, gd⟩) (HG : Hid (∀ w c A cap, Rd (kint .u8) w c [7] (.slice A gd.length cap) gd → Calls Try.prog 11 #[.agg #[.int .i64 g0, .int .i64 g1, .int .i64 g2, .slice A gd.length cap]] w (EncOk xs w c 9))) :
    Calls Try.prog 3 #[.agg #[.int .i64 ctl, .int .i64 dest, .int .i64 src, .slice A ds.length cap], .slice A1 xs.length cap1, .int .i64 bit] w (GoodB w) := by
  have hF := fun w c => first_calls w c
  have HF := Lib.hid hF
  clear hF
  have hE0 := Ext.alloc [] w (fun _ => 0) (.cells #[.int .i64 ctl, .int .i64 dest, .int .i64 src, .slice A ds.length cap] 24) 1
  have hb0 := Bx.new w (fun _ => 0) 1 #[.int .i64 ctl, .int .i64 dest, .int .i64 src, .slice A ds.length cap] 24
  have hx := hx0.ext hE0 (by simp)
  have hd := hd0.ext hE0 (by simp)
  generalize hcz : cx (fun _ => 0) w.heap.size 1 = cz at *
  clear hcz hx0 hd0
  have d0 : decide ((6000 : Int) < ds.length) = false := decide_eq_false (by omega)
  have d1 : decide ((6000 : Int) < xs.length) = false := decide_eq_false (by omega)
  have d2 : decide ((292 : Int) < bs.length) = false := decide_eq_false (by omega)
  have HB := Lib.hid hbl
  have HX := Lib.hid hdx
  clear hbl hdx
  have d3 : decide (0 ≤ bit) = false := decide_eq_false (by omega)
  clear hbit
  have HD := Lib.hid hdb
  clear hdb
  go_enter Try.func3, Try.ntmps3
  go_wp2_with (first
    | (go_at_call 10
       have htok := hE0
       clear htok
       refine (HF.out (w.alloc (.cells #[.int .i64 ctl, .int .i64 dest, .int .i64 src, .slice A ds.length cap] 24)) cz).mono ?_
       rintro e w1 ⟨c1, rfl, he⟩
       have hE1 := hE0.trans he
       replace hb0 := hb0.ext he (by simp)
       replace hx := hx.ext he (by simp)
       replace hd := hd.ext he (by simp)
       clear hE0 he
       obtain ⟨⟨k0b, k1b, k2b, k3b⟩, _⟩ := Link.Bx.four hb0
       have ltb := blkLt hb0.1)
    | (go_at_call 11
       have htok := hE1
       clear htok
       refine (HE.out w1 c1 hd).mono ?_
       rintro e w2 ⟨A2, cap2, c2, rfl, ho, he⟩
       have hE2 := hE1.trans he
       replace hb0 := hb0.ext he (by simp)
       replace hx := hx.ext he (by simp)
       replace hd := hd.ext he (by simp)
       replace ho := ho.base (β' := w.heap.size) hE1.size
       clear hE1 he
       clear k0b k1b k2b k3b ltb
       obtain ⟨⟨k0c, k1c, k2c, k3c⟩, _⟩ := Link.Bx.four hb0
       have ltc := blkLt hb0.1)
    | (go_at_call 12
       have htok := hE2
       clear htok
       have hQ := decode_calls bs A2 cap2 w2 c2 [9] (ho.rd (by simp) (by simp)) (by have := HB.out; omega) (by simp)
       unfold DecP at hQ
       rw [HX.out] at hQ
       refine (hQ).mono ?_
       rintro e w3 ⟨v7, c3, rfl, ho7, he⟩
       have hE3 := hE2.trans he
       replace hb0 := hb0.ext he (by simp)
       replace hx := hx.ext he (by simp)
       replace hd := hd.ext he (by simp)
       replace ho := ho.ext he (by simp) (by simp)
       obtain ⟨A7, cap7, rfl⟩ := ho7.slice
       have hr7 : Rd (kint .u8) w3 c3 [7] (.slice A7 ds.length cap7) ds := ho7.rd (by simp) (by simp)
       clear hQ ho7
       clear hE2 he
       clear k0c k1c k2c k3c ltc
       obtain ⟨⟨k0d, k1d, k2d, k3d⟩, _⟩ := Link.Bx.four hb0
       have ltd := blkLt hb0.1)
    | (go_at_call 13
       have htok := hE3
       clear htok
       have hal := Ext.alloc [] w3 c3 (.cells #[.int .i64 ctl, .int .i64 dest, .int .i64 src, .slice A7 ds.length cap7] 24) 1
       replace hb0 := hb0.ext hal (by simp)
       replace hx := hx.ext hal (by simp)
       replace hd := hd.ext hal (by simp)
       replace ho := ho.ext hal (by simp) (by simp)
       replace hr7 := hr7.ext hal (by simp)
       replace hE3 := hE3.trans hal
       clear hal
       generalize cx c3 w3.heap.size 1 = d4 at *
       generalize w3.alloc (.cells #[.int .i64 ctl, .int .i64 dest, .int .i64 src, .slice A7 ds.length cap7] 24) = v4 at *
       refine (same_calls ⟨ctl, dest, src, ds⟩ A7 A cap7 cap v4 d4 [7] [0] hr7 hd).mono ?_
       rintro e w5 ⟨c5, rfl, he⟩
       have hE5 := hE3.trans he
       clear hr7 hd hb0
       replace hx := hx.ext he (by simp)
       replace ho := ho.ext he (by simp) (by simp)
       clear hE3 he
       clear k0d k1d k2d k3d ltd)
    | (go_at_call 12
       have htok := hE5
       clear htok
       clear ho
       have hQ := decode_calls xs A1 cap1 w5 c5 [0] hx (by omega) (by simp)
       unfold DecP at hQ
       rw [HD.out] at hQ
       refine (hQ).mono ?_
       rintro e w6 ⟨v6, c6, rfl, ho6, he⟩
       have hE6 := hE5.trans he
       replace hx := hx.ext he (by simp)
       obtain ⟨A6, cap6, rfl⟩ := ho6.slice
       have hr6 : Rd (kint .u8) w6 c6 [7] (.slice A6 gd.length cap6) gd := ho6.rd (by simp) (by simp)
       clear hQ ho6
       clear hE5 he)
    | (go_at_call 11
       have htok := hE6
       clear htok
       have hal := Ext.alloc [] w6 c6 (.cells #[.int .i64 g0, .int .i64 g1, .int .i64 g2, .slice A6 gd.length cap6] 24) 1
       replace hx := hx.ext hal (by simp)
       replace hr6 := hr6.ext hal (by simp)
       replace hE6 := hE6.trans hal
       clear hal
       generalize cx c6 w6.heap.size 1 = d7 at *
       generalize w6.alloc (.cells #[.int .i64 g0, .int .i64 g1, .int .i64 g2, .slice A6 gd.length cap6] 24) = v7 at *
       refine (HG.out v7 d7 A6 cap6 hr6).mono ?_
       rintro e w8 ⟨A8, cap8, c8, rfl, ho8, he⟩
       have hE8 := hE6.trans he
       clear hr6
       replace hx := hx.ext he (by simp)
       have hr8 : Rd (kint .u8) w8 c8 [0, 9] (.slice A8 xs.length cap8) xs := ho8.rd (by simp) (by simp)
       clear ho8
       clear hE6 he)
    | (go_at_call 10
       have htok := hE8
       clear htok
       refine (HF.out w8 c8).mono ?_
       rintro e w9 ⟨c9, rfl, he⟩
       have hE9 := hE8.trans he
       replace hx := hx.ext he (by simp)
       replace hr8 := hr8.ext he (by simp)
       clear hE8 he)
    | (go_at_call 14
       have htok := hE9
       clear htok
       refine (bytes_same xs A8 A1 cap8 cap1 w9 c9 [0, 9] hr8 (hx.mono (by simp))).mono ?_
       rintro e w10 ⟨rfl, he⟩
       have hE10 := hE9.trans he
       clear hr8 hx
       clear hE9 he))
  go_ret
  exact ⟨rfl, hE10.belowAll⟩

set_option maxRecDepth 100000 in
set_option maxHeartbeats 6400000 in
theorem bk_flip_none (ctl dest src : Int) (ds : List Int) (A : Option Addr) (cap : Nat) (xs : List Int) (A1 : Option Addr) (cap1 : Nat) (bit : Int) (bs : List Int) (kk : Nat) (w : World) (hd0 : Rd (kint .u8) w (fun _ => 0) [0] (.slice A ds.length cap) ds) (hx0 : Rd (kint .u8) w (fun _ => 0) [0] (.slice A1 xs.length cap1) xs) (hl : ds.length ≤ 6000) (hl2 : xs.length ≤ 6000) (HE : Hid (∀ w c, Rd (kint .u8) w c [0] (.slice A ds.length cap) ds → Calls Try.prog 11 #[.agg #[.int .i64 ctl, .int .i64 dest, .int .i64 src, .slice A ds.length cap]] w (EncOk bs w c 9))) (hbl : 10 ≤ bs.length ∧ bs.length ≤ 292) (hdx : decodeV bs = some ⟨ctl, dest, src, ds⟩) (hbit : 0 ≤ bit) (hkk : bit % (8 * (bs.length : Int)) = kk) (hkl : kk < 8 * bs.length) (hb8 : Bytes8 bs) (hfl : ∀ y : Int, 0 ≤ y ∧ y ≤ 255 → bs[kk / 8]? ≠ some y → decodeV (bs.set (kk / 8) y) = none) (hdb : decodeV xs = none) :
    Calls Try.prog 3 #[.agg #[.int .i64 ctl, .int .i64 dest, .int .i64 src, .slice A ds.length cap], .slice A1 xs.length cap1, .int .i64 bit] w (GoodB w) := by
  have hF := fun w c => first_calls w c
  have HF := Lib.hid hF
  clear hF
  have hE0 := Ext.alloc [] w (fun _ => 0) (.cells #[.int .i64 ctl, .int .i64 dest, .int .i64 src, .slice A ds.length cap] 24) 1
  have hb0 := Bx.new w (fun _ => 0) 1 #[.int .i64 ctl, .int .i64 dest, .int .i64 src, .slice A ds.length cap] 24
  have hx := hx0.ext hE0 (by simp)
  have hd := hd0.ext hE0 (by simp)
  generalize hcz : cx (fun _ => 0) w.heap.size 1 = cz at *
  clear hcz hx0 hd0
  have d0 : decide ((6000 : Int) < ds.length) = false := decide_eq_false (by omega)
  have d1 : decide ((6000 : Int) < xs.length) = false := decide_eq_false (by omega)
  have d2 : decide ((292 : Int) < bs.length) = false := decide_eq_false (by omega)
  have HB := Lib.hid hbl
  have HX := Lib.hid hdx
  clear hbl hdx
  have d3 : decide (0 ≤ bit) = true := decide_eq_true hbit
  have hB := HB.out
  have hk8 : kk / 8 < bs.length := by omega
  have r1 : wrap64 (8 * (bs.length : Int)) = 8 * bs.length := by unfold wrap64; omega
  have r0 : (8 * (bs.length : Int) == 0) = false := beq_eq_false_iff_ne.2 (by omega)
  have r00 : ¬ (8 * (bs.length : Int) = 0) := by omega
  have r000 : ¬ (bs.length = 0) := by omega
  have r3 : Int.tdiv (kk : Int) 8 = (kk : Int) / 8 := Int.tdiv_eq_ediv_of_nonneg (by omega)
  have r3a : wrap64 ((kk : Int) / 8) = (kk : Int) / 8 := by unfold wrap64; omega
  have r3b : ((kk : Int) / 8).toNat = kk / 8 := by omega
  have r4 : Int.tmod (kk : Int) 8 = (kk : Int) % 8 := Int.tmod_eq_emod_of_nonneg (by omega)
  have l8 : (kk : Int) / 8 < bs.length := by omega
  have l80 : (0 : Int) ≤ (kk : Int) / 8 := by omega
  obtain ⟨x0, hx0⟩ : ∃ x0, bs[kk / 8]? = some x0 := ⟨_, List.getElem?_eq_getElem hk8⟩
  have hx8 := hb8 x0 (List.mem_of_getElem? hx0)
  have HX8 := Lib.hid hx8
  clear hx8
  have HFL := Lib.hid hfl
  have HX0 := Lib.hid hx0
  have HK := Lib.hid hk8
  clear hfl hx0 hB
  have HD := Lib.hid hdb
  clear hdb
  go_enter Try.func3, Try.ntmps3
  go_wp2_with (first
    | (go_at_call 10
       have htok := hE0
       clear htok
       refine (HF.out (w.alloc (.cells #[.int .i64 ctl, .int .i64 dest, .int .i64 src, .slice A ds.length cap] 24)) cz).mono ?_
       rintro e w1 ⟨c1, rfl, he⟩
       have hE1 := hE0.trans he
       replace hb0 := hb0.ext he (by simp)
       replace hx := hx.ext he (by simp)
       replace hd := hd.ext he (by simp)
       clear hE0 he
       obtain ⟨⟨k0b, k1b, k2b, k3b⟩, _⟩ := Link.Bx.four hb0
       have ltb := blkLt hb0.1)
    | (go_at_call 11
       have htok := hE1
       clear htok
       refine (HE.out w1 c1 hd).mono ?_
       rintro e w2 ⟨A2, cap2, c2, rfl, ho, he⟩
       have hE2 := hE1.trans he
       replace hb0 := hb0.ext he (by simp)
       replace hx := hx.ext he (by simp)
       replace hd := hd.ext he (by simp)
       replace ho := ho.base (β' := w.heap.size) hE1.size
       clear hE1 he
       clear k0b k1b k2b k3b ltb
       obtain ⟨⟨k0c, k1c, k2c, k3c⟩, _⟩ := Link.Bx.four hb0
       have ltc := blkLt hb0.1)
    | (go_at_call 12
       have htok := hE2
       clear htok
       have hQ := decode_calls bs A2 cap2 w2 c2 [9] (ho.rd (by simp) (by simp)) (by have := HB.out; omega) (by simp)
       unfold DecP at hQ
       rw [HX.out] at hQ
       refine (hQ).mono ?_
       rintro e w3 ⟨v7, c3, rfl, ho7, he⟩
       have hE3 := hE2.trans he
       replace hb0 := hb0.ext he (by simp)
       replace hx := hx.ext he (by simp)
       replace hd := hd.ext he (by simp)
       replace ho := ho.ext he (by simp) (by simp)
       obtain ⟨A7, cap7, rfl⟩ := ho7.slice
       have hr7 : Rd (kint .u8) w3 c3 [7] (.slice A7 ds.length cap7) ds := ho7.rd (by simp) (by simp)
       clear hQ ho7
       clear hE2 he
       clear k0c k1c k2c k3c ltc
       obtain ⟨⟨k0d, k1d, k2d, k3d⟩, _⟩ := Link.Bx.four hb0
       have ltd := blkLt hb0.1)
    | (go_at_call 13
       have htok := hE3
       clear htok
       have hal := Ext.alloc [] w3 c3 (.cells #[.int .i64 ctl, .int .i64 dest, .int .i64 src, .slice A7 ds.length cap7] 24) 1
       replace hb0 := hb0.ext hal (by simp)
       replace hx := hx.ext hal (by simp)
       replace hd := hd.ext hal (by simp)
       replace ho := ho.ext hal (by simp) (by simp)
       replace hr7 := hr7.ext hal (by simp)
       replace hE3 := hE3.trans hal
       clear hal
       generalize cx c3 w3.heap.size 1 = d4 at *
       generalize w3.alloc (.cells #[.int .i64 ctl, .int .i64 dest, .int .i64 src, .slice A7 ds.length cap7] 24) = v4 at *
       refine (same_calls ⟨ctl, dest, src, ds⟩ A7 A cap7 cap v4 d4 [7] [0] hr7 hd).mono ?_
       rintro e w5 ⟨c5, rfl, he⟩
       have hE5 := hE3.trans he
       clear hr7 hd hb0
       replace hx := hx.ext he (by simp)
       replace ho := ho.ext he (by simp) (by simp)
       obtain ⟨gB, capB, e1, hbB, hgB, _, hcolB, hcellB, hfrB⟩ := ho.block (by have := HB.out; omega)
       injection e1 with e1 _ e3
       subst e1
       subst e3
       have hck := hcellB (kk / 8) x0 HX0.out
       have hfk := hfrB (kk / 8)
       clear hcellB hfrB
       clear hE3 he
       clear k0d k1d k2d k3d ltd)
    | (go_at_call 12
       have htok := hE5
       clear htok
       have hrx := flip_bit x0 HX8.out kk
       generalize Go.bits .xor .u8 x0 (2 ^ (kk % 8) % 256) = yv at *
       obtain ⟨p1, p2, p3⟩ := ho.put (kk / 8) yv (u8rng hrx.1.1 hrx.1.2)
       replace hE5 := hE5.later (Nat.le_refl _) p3 (fun _ _ => rfl)
       replace hx := hx.ext p2 (by simp)
       clear ho hck hfk
       generalize w5.setCell ⟨gB, kk / 8, none⟩ (.int .u8 yv) = wS at *
       have hQ := decode_calls (bs.set (kk / 8) yv) _ cap2 wS c5 [9] (by rw [List.length_set]; exact p1.rd (by simp) (by simp)) (by rw [List.length_set]; have := HB.out; omega) (by simp)
       unfold DecP at hQ
       rw [List.length_set, HFL.out yv hrx.1 (by rw [HX0.out]; intro e; exact hrx.2 (Option.some.inj e).symm)] at hQ
       refine (hQ).mono ?_
       rintro e w6 ⟨tB, uB, c6, rfl, he⟩
       have hE6 := hE5.trans he
       replace hx := hx.ext he (by simp)
       clear hQ p1 p2 p3
       clear hE5 he)
    | (go_at_call 12
       have htok := hE6
       clear htok
       have hal := Ext.alloc [] w6 c6 (.cells #[.int .i64 0, .int .i64 0, .int .i64 0, .slice none 0 0] 24) 1
       replace hx := hx.ext hal (by simp)
       replace hE6 := hE6.trans hal
       clear hal
       generalize cx c6 w6.heap.size 1 = d7 at *
       generalize w6.alloc (.cells #[.int .i64 0, .int .i64 0, .int .i64 0, .slice none 0 0] 24) = v7 at *
       have hQ := decode_calls xs A1 cap1 v7 d7 [0] hx (by omega) (by simp)
       unfold DecP at hQ
       rw [HD.out] at hQ
       refine (hQ).mono ?_
       rintro e w8 ⟨tD, uD, c8, rfl, he⟩
       have hE8 := hE6.trans he
       clear hx
       clear hQ
       clear hE6 he)
    | (go_at_call 10
       have htok := hE8
       clear htok
       have hal := Ext.alloc [] w8 c8 (.cells #[.int .i64 0, .int .i64 0, .int .i64 0, .slice none 0 0] 24) 1
       replace hE8 := hE8.trans hal
       clear hal
       generalize cx c8 w8.heap.size 1 = d9 at *
       generalize w8.alloc (.cells #[.int .i64 0, .int .i64 0, .int .i64 0, .slice none 0 0] 24) = v9 at *
       refine (HF.out v9 d9).mono ?_
       rintro e w10 ⟨c10, rfl, he⟩
       have hE10 := hE8.trans he
       clear hE8 he))
  go_ret
  exact ⟨rfl, hE10.belowAll⟩

set_option maxRecDepth 100000 in
set_option maxHeartbeats 6400000 in
theorem bk_flip_ok (ctl dest src : Int) (ds : List Int) (A : Option Addr) (cap : Nat) (xs : List Int) (A1 : Option Addr) (cap1 : Nat) (bit : Int) (bs : List Int) (kk : Nat) (g0 g1 g2 : Int) (gd : List Int) (w : World) (hd0 : Rd (kint .u8) w (fun _ => 0) [0] (.slice A ds.length cap) ds) (hx0 : Rd (kint .u8) w (fun _ => 0) [0] (.slice A1 xs.length cap1) xs) (hl : ds.length ≤ 6000) (hl2 : xs.length ≤ 6000) (HE : Hid (∀ w c, Rd (kint .u8) w c [0] (.slice A ds.length cap) ds → Calls Try.prog 11 #[.agg #[.int .i64 ctl, .int .i64 dest, .int .i64 src, .slice A ds.length cap]] w (EncOk bs w c 9))) (hbl : 10 ≤ bs.length ∧ bs.length ≤ 292) (hdx : decodeV bs = some ⟨ctl, dest, src, ds⟩) (hbit : 0 ≤ bit) (hkk : bit % (8 * (bs.length : Int)) = kk) (hkl : kk < 8 * bs.length) (hb8 : Bytes8 bs) (hfl : ∀ y : Int, 0 ≤ y ∧ y ≤ 255 → bs[kk / 8]? ≠ some y → decodeV (bs.set (kk / 8) y) = none) (hdb : decodeV xs = some ⟨g0, g1, g2, gd⟩) (HG : Hid (∀ w c A cap, Rd (kint .u8) w c [7] (.slice A gd.length cap) gd → Calls Try.prog 11 #[.agg #[.int .i64 g0, .int .i64 g1, .int .i64 g2, .slice A gd.length cap]] w (EncOk xs w c 9))) :
    Calls Try.prog 3 #[.agg #[.int .i64 ctl, .int .i64 dest, .int .i64 src, .slice A ds.length cap], .slice A1 xs.length cap1, .int .i64 bit] w (GoodB w) := by
  have hF := fun w c => first_calls w c
  have HF := Lib.hid hF
  clear hF
  have hE0 := Ext.alloc [] w (fun _ => 0) (.cells #[.int .i64 ctl, .int .i64 dest, .int .i64 src, .slice A ds.length cap] 24) 1
  have hb0 := Bx.new w (fun _ => 0) 1 #[.int .i64 ctl, .int .i64 dest, .int .i64 src, .slice A ds.length cap] 24
  have hx := hx0.ext hE0 (by simp)
  have hd := hd0.ext hE0 (by simp)
  generalize hcz : cx (fun _ => 0) w.heap.size 1 = cz at *
  clear hcz hx0 hd0
  have d0 : decide ((6000 : Int) < ds.length) = false := decide_eq_false (by omega)
  have d1 : decide ((6000 : Int) < xs.length) = false := decide_eq_false (by omega)
  have d2 : decide ((292 : Int) < bs.length) = false := decide_eq_false (by omega)
  have HB := Lib.hid hbl
  have HX := Lib.hid hdx
  clear hbl hdx
  have d3 : decide (0 ≤ bit) = true := decide_eq_true hbit
  have hB := HB.out
  have hk8 : kk / 8 < bs.length := by omega
  have r1 : wrap64 (8 * (bs.length : Int)) = 8 * bs.length := by unfold wrap64; omega
  have r0 : (8 * (bs.length : Int) == 0) = false := beq_eq_false_iff_ne.2 (by omega)
  have r00 : ¬ (8 * (bs.length : Int) = 0) := by omega
  have r000 : ¬ (bs.length = 0) := by omega
  have r3 : Int.tdiv (kk : Int) 8 = (kk : Int) / 8 := Int.tdiv_eq_ediv_of_nonneg (by omega)
  have r3a : wrap64 ((kk : Int) / 8) = (kk : Int) / 8 := by unfold wrap64; omega
  have r3b : ((kk : Int) / 8).toNat = kk / 8 := by omega
  have r4 : Int.tmod (kk : Int) 8 = (kk : Int) % 8 := Int.tmod_eq_emod_of_nonneg (by omega)
  have l8 : (kk : Int) / 8 < bs.length := by omega
  have l80 : (0 : Int) ≤ (kk : Int) / 8 := by omega
  obtain ⟨x0, hx0⟩ : ∃ x0, bs[kk / 8]? = some x0 := ⟨_, List.getElem?_eq_getElem hk8⟩
  have hx8 := hb8 x0 (List.mem_of_getElem? hx0)
  have HX8 := Lib.hid hx8
  clear hx8
  have HFL := Lib.hid hfl
  have HX0 := Lib.hid hx0
  have HK := Lib.hid hk8
  clear hfl hx0 hB
  have HD := Lib.hid hdb
  clear hdb
  go_enter Try.func3, Try.ntmps3
  go_wp2_with (first
    | (go_at_call 10
       have htok := hE0
       clear htok
       refine (HF.out (w.alloc (.cells #[.int .i64 ctl, .int .i64 dest, .int .i64 src, .slice A ds.length cap] 24)) cz).mono ?_
       rintro e w1 ⟨c1, rfl, he⟩
       have hE1 := hE0.trans he
       replace hb0 := hb0.ext he (by simp)
       replace hx := hx.ext he (by simp)
       replace hd := hd.ext he (by simp)
       clear hE0 he
       obtain ⟨⟨k0b, k1b, k2b, k3b⟩, _⟩ := Link.Bx.four hb0
       have ltb := blkLt hb0.1)
    | (go_at_call 11
       have htok := hE1
       clear htok
       refine (HE.out w1 c1 hd).mono ?_
       rintro e w2 ⟨A2, cap2, c2, rfl, ho, he⟩
       have hE2 := hE1.trans he
       replace hb0 := hb0.ext he (by simp)
       replace hx := hx.ext he (by simp)
       replace hd := hd.ext he (by simp)
       replace ho := ho.base (β' := w.heap.size) hE1.size
       clear hE1 he
       clear k0b k1b k2b k3b ltb
       obtain ⟨⟨k0c, k1c, k2c, k3c⟩, _⟩ := Link.Bx.four hb0
       have ltc := blkLt hb0.1)
    | (go_at_call 12
       have htok := hE2
       clear htok
       have hQ := decode_calls bs A2 cap2 w2 c2 [9] (ho.rd (by simp) (by simp)) (by have := HB.out; omega) (by simp)
       unfold DecP at hQ
       rw [HX.out] at hQ
       refine (hQ).mono ?_
       rintro e w3 ⟨v7, c3, rfl, ho7, he⟩
       have hE3 := hE2.trans he
       replace hb0 := hb0.ext he (by simp)
       replace hx := hx.ext he (by simp)
       replace hd := hd.ext he (by simp)
       replace ho := ho.ext he (by simp) (by simp)
       obtain ⟨A7, cap7, rfl⟩ := ho7.slice
       have hr7 : Rd (kint .u8) w3 c3 [7] (.slice A7 ds.length cap7) ds := ho7.rd (by simp) (by simp)
       clear hQ ho7
       clear hE2 he
       clear k0c k1c k2c k3c ltc
       obtain ⟨⟨k0d, k1d, k2d, k3d⟩, _⟩ := Link.Bx.four hb0
       have ltd := blkLt hb0.1)
    | (go_at_call 13
       have htok := hE3
       clear htok
       have hal := Ext.alloc [] w3 c3 (.cells #[.int .i64 ctl, .int .i64 dest, .int .i64 src, .slice A7 ds.length cap7] 24) 1
       replace hb0 := hb0.ext hal (by simp)
       replace hx := hx.ext hal (by simp)
       replace hd := hd.ext hal (by simp)
       replace ho := ho.ext hal (by simp) (by simp)
       replace hr7 := hr7.ext hal (by simp)
       replace hE3 := hE3.trans hal
       clear hal
       generalize cx c3 w3.heap.size 1 = d4 at *
       generalize w3.alloc (.cells #[.int .i64 ctl, .int .i64 dest, .int .i64 src, .slice A7 ds.length cap7] 24) = v4 at *
       refine (same_calls ⟨ctl, dest, src, ds⟩ A7 A cap7 cap v4 d4 [7] [0] hr7 hd).mono ?_
       rintro e w5 ⟨c5, rfl, he⟩
       have hE5 := hE3.trans he
       clear hr7 hd hb0
       replace hx := hx.ext he (by simp)
       replace ho := ho.ext he (by simp) (by simp)
       obtain ⟨gB, capB, e1, hbB, hgB, _, hcolB, hcellB, hfrB⟩ := ho.block (by have := HB.out; omega)
       injection e1 with e1 _ e3
       subst e1
       subst e3
       have hck := hcellB (kk / 8) x0 HX0.out
       have hfk := hfrB (kk / 8)
       clear hcellB hfrB
       clear hE3 he
       clear k0d k1d k2d k3d ltd)
    | (go_at_call 12
       have htok := hE5
       clear htok
       have hrx := flip_bit x0 HX8.out kk
       generalize Go.bits .xor .u8 x0 (2 ^ (kk % 8) % 256) = yv at *
       obtain ⟨p1, p2, p3⟩ := ho.put (kk / 8) yv (u8rng hrx.1.1 hrx.1.2)
       replace hE5 := hE5.later (Nat.le_refl _) p3 (fun _ _ => rfl)
       replace hx := hx.ext p2 (by simp)
       clear ho hck hfk
       generalize w5.setCell ⟨gB, kk / 8, none⟩ (.int .u8 yv) = wS at *
       have hQ := decode_calls (bs.set (kk / 8) yv) _ cap2 wS c5 [9] (by rw [List.length_set]; exact p1.rd (by simp) (by simp)) (by rw [List.length_set]; have := HB.out; omega) (by simp)
       unfold DecP at hQ
       rw [List.length_set, HFL.out yv hrx.1 (by rw [HX0.out]; intro e; exact hrx.2 (Option.some.inj e).symm)] at hQ
       refine (hQ).mono ?_
       rintro e w6 ⟨tB, uB, c6, rfl, he⟩
       have hE6 := hE5.trans he
       replace hx := hx.ext he (by simp)
       clear hQ p1 p2 p3
       clear hE5 he)
    | (go_at_call 12
       have htok := hE6
       clear htok
       have hal := Ext.alloc [] w6 c6 (.cells #[.int .i64 0, .int .i64 0, .int .i64 0, .slice none 0 0] 24) 1
       replace hx := hx.ext hal (by simp)
       replace hE6 := hE6.trans hal
       clear hal
       generalize cx c6 w6.heap.size 1 = d7 at *
       generalize w6.alloc (.cells #[.int .i64 0, .int .i64 0, .int .i64 0, .slice none 0 0] 24) = v7 at *
       have hQ := decode_calls xs A1 cap1 v7 d7 [0] hx (by omega) (by simp)
       unfold DecP at hQ
       rw [HD.out] at hQ
       refine (hQ).mono ?_
       rintro e w8 ⟨v6, c8, rfl, ho6, he⟩
       have hE8 := hE6.trans he
       replace hx := hx.ext he (by simp)
       obtain ⟨A6, cap6, rfl⟩ := ho6.slice
       have hr6 : Rd (kint .u8) w8 c8 [7] (.slice A6 gd.length cap6) gd := ho6.rd (by simp) (by simp)
       clear hQ ho6
       clear hE6 he)
    | (go_at_call 11
       have htok := hE8
       clear htok
       have hal := Ext.alloc [] w8 c8 (.cells #[.int .i64 g0, .int .i64 g1, .int .i64 g2, .slice A6 gd.length cap6] 24) 1
       replace hx := hx.ext hal (by simp)
       replace hr6 := hr6.ext hal (by simp)
       replace hE8 := hE8.trans hal
       clear hal
       generalize cx c8 w8.heap.size 1 = d9 at *
       generalize w8.alloc (.cells #[.int .i64 g0, .int .i64 g1, .int .i64 g2, .slice A6 gd.length cap6] 24) = v9 at *
       refine (HG.out v9 d9 A6 cap6 hr6).mono ?_
       rintro e w10 ⟨A8, cap8, c10, rfl, ho8, he⟩
       have hE10 := hE8.trans he
       clear hr6
       replace hx := hx.ext he (by simp)
       have hr8 : Rd (kint .u8) w10 c10 [0, 9] (.slice A8 xs.length cap8) xs := ho8.rd (by simp) (by simp)
       clear ho8
       clear hE8 he)
    | (go_at_call 10
       have htok := hE10
       clear htok
       refine (HF.out w10 c10).mono ?_
       rintro e w11 ⟨c11, rfl, he⟩
       have hE11 := hE10.trans he
       replace hx := hx.ext he (by simp)
       replace hr8 := hr8.ext he (by simp)
       clear hE10 he)
    | (go_at_call 14
       have htok := hE11
       clear htok
       refine (bytes_same xs A8 A1 cap8 cap1 w11 c11 [0, 9] hr8 (hx.mono (by simp))).mono ?_
       rintro e w12 ⟨rfl, he⟩
       have hE12 := hE11.trans he
       clear hr8 hx
       clear hE11 he))
  go_ret
  exact ⟨rfl, hE12.belowAll⟩

theorem back_walk (ctl dest src : Int) (ds : List Int) (A : Option Addr) (cap : Nat) (xs : List Int) (A1 : Option Addr) (cap1 : Nat) (bit : Int) (w : World) (hd : Rd (kint .u8) w (fun _ => 0) [0] (.slice A ds.length cap) ds) (hx : Rd (kint .u8) w (fun _ => 0) [0] (.slice A1 xs.length cap1) xs) :
    Calls Try.prog 3 #[.agg #[.int .i64 ctl, .int .i64 dest, .int .i64 src, .slice A ds.length cap], .slice A1 xs.length cap1, .int .i64 bit] w (GoodB w) := by
  by_cases h1 : 6000 < ds.length
  · exact bk_long ctl dest src ds A cap xs A1 cap1 bit w hd hx h1
  by_cases h2 : 6000 < xs.length
  · exact bk_big ctl dest src ds A cap xs A1 cap1 bit w hd hx (by omega) h2
  have hG : ∀ g : Fr, decodeV xs = some g → Hid (∀ w c A cap, Rd (kint .u8) w c [7] (.slice A g.data.length cap) g.data → Calls Try.prog 11 #[.agg #[.int .i64 g.ctl, .int .i64 g.dest, .int .i64 g.src, .slice A g.data.length cap]] w (EncOk xs w c 9)) := fun g hg w c A cap hr => by
    obtain ⟨⟨m1, m2, m3, m4, m5, m6⟩, gl, _⟩ := dec_some xs (Rd.bytes8 hx) g hg
    have := enc_ok g.ctl g.dest g.src g.data A cap w c [7] 9 (by simp) hr m1 m2 m3 m4 m5 m6 gl
    rw [show encB ⟨g.ctl, g.dest, g.src, g.data⟩ = xs from enc_dec xs (Rd.bytes8 hx) g hg] at this
    exact this
  by_cases hm : Fr.may ⟨ctl, dest, src, ds⟩ ∧ ds.length ≤ 250
  · obtain ⟨hmm, hl⟩ := hm
    obtain ⟨m1, m2, m3, m4, m5, m6⟩ := id hmm
    have hlen := enc_len ⟨ctl, dest, src, ds⟩
    have hsz := size_mod ds.length hl
    have hE : Hid (∀ w c, Rd (kint .u8) w c [0] (.slice A ds.length cap) ds → Calls Try.prog 11 #[.agg #[.int .i64 ctl, .int .i64 dest, .int .i64 src, .slice A ds.length cap]] w (EncOk (encB ⟨ctl, dest, src, ds⟩) w c 9)) := fun w c hr => enc_ok ctl dest src ds A cap w c [0] 9 (by simp) hr m1 m2 m3 m4 m5 m6 hl
    have hbl : 10 ≤ (encB ⟨ctl, dest, src, ds⟩).length ∧ (encB ⟨ctl, dest, src, ds⟩).length ≤ 292 := by rw [hlen]; exact ⟨hsz.1, hsz.2.1⟩
    have hdx := dec_enc ⟨ctl, dest, src, ds⟩ hmm hl
    by_cases hbit : bit < 0
    · cases hdb : decodeV xs with
      | none => exact bk_ok_none ctl dest src ds A cap xs A1 cap1 bit _ w hd hx (by omega) (by omega) hE hbl hdx hbit hdb
      | some g => exact bk_ok_ok ctl dest src ds A cap xs A1 cap1 bit _ g.ctl g.dest g.src g.data w hd hx (by omega) (by omega) hE hbl hdx hbit hdb (hG g hdb)
    · have h8 := enc_8 ⟨ctl, dest, src, ds⟩ hmm hl (Rd.bytes8 hd)
      have hp : (0 : Int) < 8 * ((encB ⟨ctl, dest, src, ds⟩).length : Int) := by omega
      have hk0 := Int.emod_nonneg bit (show 8 * ((encB ⟨ctl, dest, src, ds⟩).length : Int) ≠ 0 by omega)
      have hk1 := Int.emod_lt_of_pos bit hp
      obtain ⟨kk, hkk⟩ := Int.eq_ofNat_of_zero_le hk0
      have hkl : kk < 8 * (encB ⟨ctl, dest, src, ds⟩).length := by rw [hkk] at hk1; omega
      have hfl : ∀ y : Int, 0 ≤ y ∧ y ≤ 255 → (encB ⟨ctl, dest, src, ds⟩)[kk / 8]? ≠ some y → decodeV ((encB ⟨ctl, dest, src, ds⟩).set (kk / 8) y) = none := fun y hy hne => by
        have hi : kk / 8 < (encB ⟨ctl, dest, src, ds⟩).length := by omega
        exact dec_flip ⟨ctl, dest, src, ds⟩ hmm hl (Rd.bytes8 hd) (kk / 8) hi y hy (fun e => hne (by rw [List.getElem?_eq_getElem hi, e]))
      cases hdb : decodeV xs with
      | none => exact bk_flip_none ctl dest src ds A cap xs A1 cap1 bit _ kk w hd hx (by omega) (by omega) hE hbl hdx (by omega) hkk hkl h8 hfl hdb
      | some g => exact bk_flip_ok ctl dest src ds A cap xs A1 cap1 bit _ kk g.ctl g.dest g.src g.data w hd hx (by omega) (by omega) hE hbl hdx (by omega) hkk hkl h8 hfl hdb (hG g hdb)
  · have hE : Hid (∀ w c, Rd (kint .u8) w c [0] (.slice A ds.length cap) ds → Calls Try.prog 11 #[.agg #[.int .i64 ctl, .int .i64 dest, .int .i64 src, .slice A ds.length cap]] w (EncBad w c)) := fun w c hr => enc_bad ctl dest src ds A cap w c [0] 9 (by simp) hr hm
    cases hdb : decodeV xs with
    | none => exact bk_bad_none ctl dest src ds A cap xs A1 cap1 bit w hd hx (by omega) (by omega) hE hdb
    | some g => exact bk_bad_ok ctl dest src ds A cap xs A1 cap1 bit g.ctl g.dest g.src g.data w hd hx (by omega) (by omega) hE hdb (hG g hdb)

end Go.Proofs.Ytkchcihglpcmiaa.Link
