/- The pure law VariSigns of chapter 18. -/
import Derived.Test.YtpchlljelbpanaaPV4x0
import Derived.Test.YtpchlljelbpanaaPV4x1
import Derived.Test.YtpchlljelbpanaaPV4x3
namespace Go.Proofs.Ytpchlljelbpanaa.Pure
open Go.RowKit Go.Proofs.Ytpchlljelbpanaa.PVariTables Go.Proofs.Ytpchlljelbpanaa.PV4 Go.Proofs.YtpchlljelbpanaaW.PrintWords Go.Proofs.YtpchlljelbpanaaW.PrintLast Go.Proofs.YtpchlljelbpanaaW.PrintMore

theorem wf_range {a : Int} (h : (Lit.int .i64 a).wf = true) : -9223372036854775808 ≤ a ∧ a ≤ 9223372036854775807 := by
  simp [Lit.wf, IntKind.min, IntKind.max, IntKind.bits, IntKind.signed] at h
  omega
theorem w64 {x : Int} (h0 : -9223372036854775808 ≤ x) (h1 : x ≤ 9223372036854775807) : wrap64 x = x := by
  unfold wrap64; omega
theorem u64_w (x : Int) : IntKind.u64.wrap x = x % 18446744073709551616 := by simp [IntKind.wrap, IntKind.bits, IntKind.signed]
theorem u16_w (x : Int) : IntKind.u16.wrap x = x % 65536 := by simp [IntKind.wrap, IntKind.bits, IntKind.signed]
theorem i16_w (x : Int) : IntKind.i16.wrap x = (x + 32768) % 65536 - 32768 := by
  simp [IntKind.wrap, IntKind.bits, IntKind.signed]
  split <;> omega
theorem i64_w' (x : Int) : IntKind.i64.wrap x = wrap64 x := by
  simp [IntKind.wrap, IntKind.bits, IntKind.signed, wrap64]
  split <;> omega
theorem p2 (b : Nat) (hb : b ≤ 61) : 1 ≤ (2 : Int) ^ b ∧ (2 : Int) ^ b ≤ 2305843009213693952 := by
  have hN : (2 : Nat) ^ b ≤ 2 ^ 61 := Nat.pow_le_pow_right (by decide) hb
  have hP : 1 ≤ (2 : Nat) ^ b := Nat.one_le_two_pow
  have e : (2 : Int) ^ b = ((2 ^ b : Nat) : Int) := by simp
  rw [e]
  generalize (2 : Nat) ^ b = m at hN hP
  omega
/-- A shift of 1 by a count within 61. -/
theorem shl1 (n : Int) (h0 : 0 ≤ n) (h1 : n ≤ 61) : shl .i64 1 n = 2 ^ n.toNat ∧ 1 ≤ shl .i64 1 n ∧ shl .i64 1 n ≤ 2305843009213693952 := by
  have hp := p2 n.toNat (by omega)
  have e : shl .i64 1 n = 2 ^ n.toNat := by
    unfold shl
    have : min n.toNat IntKind.i64.bits = n.toNat := by simp [IntKind.bits]; omega
    rw [this, Int.one_mul, i64_w', w64 (by omega) (by omega)]
  rw [e]; exact ⟨rfl, hp.1, hp.2⟩
/-- What Clip answers. -/
def clipV (n h : Int) : Int × Bool := if n > h then (h, true) else if n < -h - 1 then (-h - 1, true) else (n, false)
theorem clip_bad (k : Nat) (n b : Int) (h : b < 1 ∨ 62 < b) : scale_Clip.f (k + 1) n b = some (0, true) := by
  unfold scale_Clip.f
  by_cases c : b < 1
  · rw [if_pos c]; simp only [scale_Clip.j0, if_true]
  · have : decide (b > 62) = true := decide_eq_true (by omega)
    rw [if_neg c, this]; simp only [scale_Clip.j0, if_true]
theorem clip_good (k : Nat) (n b : Int) (h0 : 1 ≤ b) (h1 : b ≤ 62) : scale_Clip.f (k + 1) n b = some (clipV n (shl .i64 1 (b - 1) - 1)) := by
  obtain ⟨_, l, u⟩ := shl1 (b - 1) (by omega) (by omega)
  have e1 : wrap64 (b - 1) = b - 1 := w64 (by omega) (by omega)
  have e2 : wrap64 (shl .i64 1 (b - 1) - 1) = shl .i64 1 (b - 1) - 1 := w64 (by omega) (by omega)
  have e3 : wrap64 (-(shl .i64 1 (b - 1) - 1)) = -(shl .i64 1 (b - 1) - 1) := w64 (by omega) (by omega)
  have e4 : wrap64 (-(shl .i64 1 (b - 1) - 1) - 1) = -(shl .i64 1 (b - 1) - 1) - 1 := w64 (by omega) (by omega)
  have d : decide (b > 62) = false := decide_eq_false (by omega)
  unfold scale_Clip.f
  rw [if_neg (by omega), d]
  simp only [scale_Clip.j0]
  rw [if_neg (by decide), e1, e2, e3, e4, if_pos (by omega)]
  unfold clipV
  split
  · rfl
  · split <;> rfl
theorem shl31 : shl .i64 1 (32 - 1) - 1 = 2147483647 := by decide +kernel
theorem clip32 (k : Nat) (n : Int) : scale_Clip.f (k + 1) n 32 = some (clipV n 2147483647) := by
  rw [clip_good k n 32 (by decide) (by decide), show shl .i64 1 (32 - 1) - 1 = 2147483647 by decide +kernel]
theorem clip16 (k : Nat) (n : Int) : scale_Clip.f (k + 1) n 16 = some (clipV n 32767) := by
  rw [clip_good k n 16 (by decide) (by decide), show shl .i64 1 (16 - 1) - 1 = 32767 by decide +kernel]
open Go.Proofs.Ytpchlljelbpanaa.Vari (getV sI)
open Go.Proofs.Ytpchlljelbpanaa.Num (le leB leB_range leB_length)
/-- A number's bytes, as Put takes them. -/
def sp (n : Nat) (v : Int) : List Int := (List.range n).map fun (i : Nat) => shr .i64 v (8 * (i : Int)) % 256
def xA (N F : Int) : Int := bits .or .i64 (bits .and .i64 F 7) (wrap64 (bits .and .i64 N 1 * 128)) % 256
def xB (N F : Int) : Int := bits .or .i64 (bits .and .i64 F 7) (wrap64 (bits .and .i64 N 3 * 64)) % 256
def xC (F : Int) (c : Bool) : Int := (if c then bits .or .i64 (bits .and .i64 F 7) 32 else bits .and .i64 F 7) % 256
def tmV (T b : Int) : Int := wrap64 (bits .and .i64 (mx b 0) 281474976710655 + bits .and .i64 (mx T 0) 281474976710655)
theorem shr_at (v : Int) (i : Nat) (h : i ≤ 7) : shr .i64 v (8 * i) = v / 256 ^ i := by
  have e : min (8 * (i : Int)).toNat IntKind.i64.bits = 8 * i := by
    have : IntKind.i64.bits = 64 := rfl
    omega
  unfold shr
  rw [e, Int.pow_mul]
  rfl
theorem sp2 (v : Int) : sp 2 v = leB 2 v := by
  show [shr .i64 v (8 * (0 : Nat)) % 256, shr .i64 v (8 * (1 : Nat)) % 256] = [v % 256, v / 256 % 256]
  rw [shr_at v 0 (by decide), shr_at v 1 (by decide)]
  simp only [List.cons.injEq, and_true]
  refine ⟨?_, ?_⟩ <;> omega
theorem sp4 (v : Int) : sp 4 v = leB 4 v := by
  show [shr .i64 v (8 * (0 : Nat)) % 256, shr .i64 v (8 * (1 : Nat)) % 256, shr .i64 v (8 * (2 : Nat)) % 256, shr .i64 v (8 * (3 : Nat)) % 256] = [v % 256, v / 256 % 256, v / 256 / 256 % 256, v / 256 / 256 / 256 % 256]
  rw [shr_at v 0 (by decide), shr_at v 1 (by decide), shr_at v 2 (by decide), shr_at v 3 (by decide)]
  simp only [List.cons.injEq, and_true]
  refine ⟨?_, ?_, ?_, ?_⟩ <;> omega
theorem put_1_2 (N F T b : Int) : vari_Put.f 29 1 2 N F T b = some ([xA N F], true) := by kernel_rfl
theorem put_10_2 (N F T b : Int) : vari_Put.f 29 10 2 N F T b = some ([xA N F], true) := by kernel_rfl
theorem put_2_1 (N F T b : Int) : vari_Put.f 29 2 1 N F T b = some ([xA N F], true) := by kernel_rfl
theorem put_3_2 (N F T b : Int) : vari_Put.f 29 3 2 N F T b = some ([xB N F], true) := by kernel_rfl
theorem put_4_1 (N F T b : Int) : vari_Put.f 29 4 1 N F T b = some ([xB N F], true) := by kernel_rfl
theorem put_2_2 (N F T b : Int) : vari_Put.f 29 2 2 N F T b = some (xA N F :: sp 6 (tmV T b), true) := by kernel_rfl
theorem put_4_2 (N F T b : Int) : vari_Put.f 29 4 2 N F T b = some (xB N F :: sp 6 (tmV T b), true) := by kernel_rfl
theorem put_20_1 (N F T b : Int) : vari_Put.f 29 20 1 N F T b = some (xC F false :: sp 4 N, true) := by kernel_rfl
theorem put_21_1 (N F T b : Int) : vari_Put.f 29 21 1 N F T b = some (xC F false :: sp 4 N, true) := by kernel_rfl
theorem put_22_1 (N F T b : Int) : vari_Put.f 29 22 1 N F T b = some (xC F false :: sp 4 N, true) := by kernel_rfl
theorem put_22_5 (N F T b : Int) : vari_Put.f 29 22 5 N F T b = some (xC F false :: (sp 4 N ++ sp 6 (tmV T b)), true) := by kernel_rfl
theorem put_30_1 (N F T b y : Int) (cut : Bool) (hc : clipV N 2147483647 = (y, cut)) : vari_Put.f 29 30 1 N F T b = some (xC F cut :: sp 4 y, true) := by
  have e : vari_Put.f 29 30 1 N F T b = (scale_Clip.f 27 N 32).bind fun bt => if bt.2 = true then vari_Put.j2 27 b 4 false (bits .or .i64 (bits .and .i64 F 7) 32) bt.1 N F T else vari_Put.j2 27 b 4 false (bits .and .i64 F 7) bt.1 N F T := by kernel_rfl
  rw [e, clip32 26, hc]
  cases cut
  · exact (show vari_Put.j2 27 b 4 false (bits .and .i64 F 7) y N F T = some (xC F false :: sp 4 y, true) by kernel_rfl)
  · exact (show vari_Put.j2 27 b 4 false (bits .or .i64 (bits .and .i64 F 7) 32) y N F T = some (xC F true :: sp 4 y, true) by kernel_rfl)
theorem put_40_1 (N F T b y : Int) (cut : Bool) (hc : clipV N 2147483647 = (y, cut)) : vari_Put.f 29 40 1 N F T b = some (xC F cut :: sp 4 y, true) := by
  have e : vari_Put.f 29 40 1 N F T b = (scale_Clip.f 27 N 32).bind fun bt => if bt.2 = true then vari_Put.j2 27 b 4 false (bits .or .i64 (bits .and .i64 F 7) 32) bt.1 N F T else vari_Put.j2 27 b 4 false (bits .and .i64 F 7) bt.1 N F T := by kernel_rfl
  rw [e, clip32 26, hc]
  cases cut
  · exact (show vari_Put.j2 27 b 4 false (bits .and .i64 F 7) y N F T = some (xC F false :: sp 4 y, true) by kernel_rfl)
  · exact (show vari_Put.j2 27 b 4 false (bits .or .i64 (bits .and .i64 F 7) 32) y N F T = some (xC F true :: sp 4 y, true) by kernel_rfl)
theorem put_32_1 (N F T b y : Int) (cut : Bool) (hc : clipV N 2147483647 = (y, cut)) : vari_Put.f 29 32 1 N F T b = some (xC F cut :: sp 4 y, true) := by
  have e : vari_Put.f 29 32 1 N F T b = (scale_Clip.f 27 N 32).bind fun bt => if bt.2 = true then vari_Put.j2 27 b 4 false (bits .or .i64 (bits .and .i64 F 7) 32) bt.1 N F T else vari_Put.j2 27 b 4 false (bits .and .i64 F 7) bt.1 N F T := by kernel_rfl
  rw [e, clip32 26, hc]
  cases cut
  · exact (show vari_Put.j2 27 b 4 false (bits .and .i64 F 7) y N F T = some (xC F false :: sp 4 y, true) by kernel_rfl)
  · exact (show vari_Put.j2 27 b 4 false (bits .or .i64 (bits .and .i64 F 7) 32) y N F T = some (xC F true :: sp 4 y, true) by kernel_rfl)
theorem put_30_2 (N F T b y : Int) (cut : Bool) (hc : clipV N 32767 = (y, cut)) : vari_Put.f 29 30 2 N F T b = some (xC F cut :: sp 2 y, true) := by
  have e : vari_Put.f 29 30 2 N F T b = (scale_Clip.f 27 N 16).bind fun bt => if bt.2 = true then vari_Put.j2 27 b 2 false (bits .or .i64 (bits .and .i64 F 7) 32) bt.1 N F T else vari_Put.j2 27 b 2 false (bits .and .i64 F 7) bt.1 N F T := by kernel_rfl
  rw [e, clip16 26, hc]
  cases cut
  · exact (show vari_Put.j2 27 b 2 false (bits .and .i64 F 7) y N F T = some (xC F false :: sp 2 y, true) by kernel_rfl)
  · exact (show vari_Put.j2 27 b 2 false (bits .or .i64 (bits .and .i64 F 7) 32) y N F T = some (xC F true :: sp 2 y, true) by kernel_rfl)
theorem put_40_2 (N F T b y : Int) (cut : Bool) (hc : clipV N 32767 = (y, cut)) : vari_Put.f 29 40 2 N F T b = some (xC F cut :: sp 2 y, true) := by
  have e : vari_Put.f 29 40 2 N F T b = (scale_Clip.f 27 N 16).bind fun bt => if bt.2 = true then vari_Put.j2 27 b 2 false (bits .or .i64 (bits .and .i64 F 7) 32) bt.1 N F T else vari_Put.j2 27 b 2 false (bits .and .i64 F 7) bt.1 N F T := by kernel_rfl
  rw [e, clip16 26, hc]
  cases cut
  · exact (show vari_Put.j2 27 b 2 false (bits .and .i64 F 7) y N F T = some (xC F false :: sp 2 y, true) by kernel_rfl)
  · exact (show vari_Put.j2 27 b 2 false (bits .or .i64 (bits .and .i64 F 7) 32) y N F T = some (xC F true :: sp 2 y, true) by kernel_rfl)
theorem put_32_2 (N F T b y : Int) (cut : Bool) (hc : clipV N 32767 = (y, cut)) : vari_Put.f 29 32 2 N F T b = some (xC F cut :: sp 2 y, true) := by
  have e : vari_Put.f 29 32 2 N F T b = (scale_Clip.f 27 N 16).bind fun bt => if bt.2 = true then vari_Put.j2 27 b 2 false (bits .or .i64 (bits .and .i64 F 7) 32) bt.1 N F T else vari_Put.j2 27 b 2 false (bits .and .i64 F 7) bt.1 N F T := by kernel_rfl
  rw [e, clip16 26, hc]
  cases cut
  · exact (show vari_Put.j2 27 b 2 false (bits .and .i64 F 7) y N F T = some (xC F false :: sp 2 y, true) by kernel_rfl)
  · exact (show vari_Put.j2 27 b 2 false (bits .or .i64 (bits .and .i64 F 7) 32) y N F T = some (xC F true :: sp 2 y, true) by kernel_rfl)
theorem put_32_3 (N F T b y : Int) (cut : Bool) (hc : clipV N 2147483647 = (y, cut)) : vari_Put.f 29 32 3 N F T b = some (xC F cut :: (sp 4 y ++ sp 6 (tmV T b)), true) := by
  have e : vari_Put.f 29 32 3 N F T b = (scale_Clip.f 27 N 32).bind fun bt => if bt.2 = true then vari_Put.j2 27 b 4 true (bits .or .i64 (bits .and .i64 F 7) 32) bt.1 N F T else vari_Put.j2 27 b 4 true (bits .and .i64 F 7) bt.1 N F T := by kernel_rfl
  rw [e, clip32 26, hc]
  cases cut
  · exact (show vari_Put.j2 27 b 4 true (bits .and .i64 F 7) y N F T = some (xC F false :: (sp 4 y ++ sp 6 (tmV T b)), true) by kernel_rfl)
  · exact (show vari_Put.j2 27 b 4 true (bits .or .i64 (bits .and .i64 F 7) 32) y N F T = some (xC F true :: (sp 4 y ++ sp 6 (tmV T b)), true) by kernel_rfl)
theorem and7 (n : Int) : bits .and .i64 n 7 = n % 8 := by
  have h127 : (BitVec.ofInt 64 7).toNat = 2 ^ 3 - 1 := by decide
  have key : (BitVec.ofInt 64 n &&& BitVec.ofInt 64 7).toNat = (n % ((2 ^ 64 : Nat) : Int)).toNat % 2 ^ 3 := by
    rw [BitVec.toNat_and, BitVec.toNat_ofInt, h127, Nat.and_two_pow_sub_one_eq_mod]
  show IntKind.i64.wrap ((BitVec.ofInt 64 n &&& BitVec.ofInt 64 7).toNat : Nat) = n % 8
  rw [key, i64_w']
  unfold wrap64
  omega
/-- The byte of flags: its range, the flags back, the mark of a clipped number. -/
theorem flagbits (f : Int) (h : 0 ≤ f ∧ f ≤ 7) (c : Bool) : (0 ≤ (if c then bits .or .i64 f 32 else f) % 256 ∧ (if c then bits .or .i64 f 32 else f) % 256 ≤ 255) ∧
    bits .and .i64 ((if c then bits .or .i64 f 32 else f) % 256) 7 = f ∧ ((bits .and .i64 (wrap64 ((if c then bits .or .i64 f 32 else f) % 256)) 32) != 0) = c := by
  rcases (by omega : f = 0 ∨ f = 1 ∨ f = 2 ∨ f = 3 ∨ f = 4 ∨ f = 5 ∨ f = 6 ∨ f = 7) with rfl | rfl | rfl | rfl | rfl | rfl | rfl | rfl <;> cases c <;> decide +kernel
theorem modstep (v : Int) (m : Int) : v % 256 + 256 * (v / 256 % m) = v % (256 * m) := by
  have h1 := Int.emod_add_mul_ediv v (256 * m)
  have h2 := Int.emod_add_mul_ediv (v / 256) m
  have h3 : v / (256 * m) = v / 256 / m := (Int.ediv_ediv_of_nonneg (by decide)).symm
  have h4 : v = v % 256 + 256 * (v / 256) := by omega
  rw [h3] at h1
  generalize v / 256 / m = q at *
  generalize v / 256 % m = r at *
  have h5 : 256 * m * q = 256 * (m * q) := Int.mul_assoc _ _ _
  rw [h5] at h1
  generalize m * q = z at *
  omega
theorem le_leB (n : Nat) (v : Int) : le (leB n v) = v % 256 ^ n := by
  induction n generalizing v with
  | zero => simp only [leB, le, Int.pow_zero]; omega
  | succ n ih =>
    simp only [leB, le]
    rw [ih, Int.pow_succ, Int.mul_comm (256 ^ n) 256, modstep]
theorem range_cons (x : Int) (n : Nat) (y : Int) (hx : 0 ≤ x ∧ x ≤ 255) : ∀ z, z ∈ x :: leB n y → 0 ≤ z ∧ z ≤ 255 := by
  intro z hz
  rcases List.mem_cons.1 hz with rfl | hz
  · exact hx
  · exact leB_range n y z hz
theorem get_30_1 (x y : Int) (hx : 0 ≤ x ∧ x ≤ 255) (hy : -2147483648 ≤ y ∧ y ≤ 2147483647) : getV 30 1 (x :: leB 4 y) = some (y, bits .and .i64 x 7, 0, true) := by
  have e : sI 4 (le (leB 4 y)) = y := by
    rw [le_leB]
    show (if (2147483648 : Int) ≤ y % 4294967296 then y % 4294967296 - 4294967296 else y % 4294967296) = y
    split <;> omega
  unfold getV
  rw [if_pos (range_cons x 4 y hx)]
  show some (sI 4 (le (leB 4 y)), bits .and .i64 x 7, 0, true) = _
  rw [e]
theorem get_30_2 (x y : Int) (hx : 0 ≤ x ∧ x ≤ 255) (hy : -32768 ≤ y ∧ y ≤ 32767) : getV 30 2 (x :: leB 2 y) = some (y, bits .and .i64 x 7, 0, true) := by
  have e : sI 2 (le (leB 2 y)) = y := by
    rw [le_leB]
    show (if (32768 : Int) ≤ y % 65536 then y % 65536 - 65536 else y % 65536) = y
    split <;> omega
  unfold getV
  rw [if_pos (range_cons x 2 y hx)]
  show some (sI 2 (le (leB 2 y)), bits .and .i64 x 7, 0, true) = _
  rw [e]
theorem clipV_bd (n h : Int) (hh : 0 ≤ h) : -h - 1 ≤ (clipV n h).1 ∧ (clipV n h).1 ≤ h := by
  unfold clipV
  split
  · exact ⟨by dsimp only; omega, by dsimp only; omega⟩
  · split
    · exact ⟨by dsimp only; omega, by dsimp only; omega⟩
    · exact ⟨by dsimp only; omega, by dsimp only; omega⟩
theorem VariSigns : yardlaw18_VariSigns.Pure := by
  intro n F _ _
  refine ⟨29, ?_⟩
  obtain ⟨y, cut, hc⟩ : ∃ y cut, clipV n 2147483647 = (y, cut) := ⟨_, _, rfl⟩
  obtain ⟨z, ovr, ho⟩ : ∃ z ovr, clipV n 32767 = (z, ovr) := ⟨_, _, rfl⟩
  have by_ := clipV_bd n 2147483647 (by decide)
  have bz := clipV_bd n 32767 (by decide)
  rw [hc] at by_
  rw [ho] at bz
  have f1 := flagbits (bits .and .i64 F 7) (by rw [and7]; omega) cut
  have f2 := flagbits (bits .and .i64 F 7) (by rw [and7]; omega) ovr
  have p1 := put_30_1 n F 0 0 y cut hc
  have p2 := put_30_2 n F 0 0 z ovr ho
  rw [sp4] at p1
  rw [sp2] at p2
  unfold xC at p1 p2
  generalize (if cut then bits .or .i64 (bits .and .i64 F 7) 32 else bits .and .i64 F 7) % 256 = x1 at *
  generalize (if ovr then bits .or .i64 (bits .and .i64 F 7) 32 else bits .and .i64 F 7) % 256 = x2 at *
  have g1 := get_30_1 x1 y f1.1 (by dsimp only at by_; omega)
  have g2 := get_30_2 x2 z f2.1 (by dsimp only at bz; omega)
  have j : yardlaw18_VariSigns.j0 (28 + 1) n F (x1 :: leB 4 y) (x2 :: leB 2 z) false = some true := by
    rw [yardlaw18_VariSigns.j0, if_neg (by decide)]
    unfold vari_Get.f
    rw [g1, g2, clip32 27, clip16 27, hc, ho]
    simp only [Option.bind_some, yardlaw18_first.f, if_true]
    have r1 : rd (x1 :: leB 4 y) 0 = x1 := rfl
    have r2 : rd (x2 :: leB 2 z) 0 = x2 := rfl
    have l1 : (0 : Int) < ((x1 :: leB 4 y).length : Int) := by simp [leB_length]
    have l2 : (0 : Int) < ((x2 :: leB 2 z).length : Int) := by simp [leB_length]
    rw [r1, r2, if_pos l1, f1.2.2, beq_self_eq_true, if_pos rfl, if_pos l2, f2.2.2, beq_self_eq_true, if_pos rfl, f1.2.1, f2.2.1, if_pos rfl, beq_self_eq_true]
  unfold yardlaw18_VariSigns.f
  simp only [yardlaw18_first.f, Option.bind_some, if_true, p1, p2]
  have l1 : ((x1 :: leB 4 y).length : Int) = 5 := by simp [leB_length]
  have l2 : (((x2 :: leB 2 z).length : Int) != 3) = false := by simp [leB_length]
  rw [if_pos l1, l2]
  exact j

end Go.Proofs.Ytpchlljelbpanaa.Pure
