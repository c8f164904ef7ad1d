/- The pure law VariBack of chapter 18. -/
import Derived.Test.YtpchlljelbpanaaPV4x0
import Derived.Test.YtpchlljelbpanaaPV4x1
import Derived.Test.YtpchlljelbpanaaPV4x2
namespace Go.Proofs.Ytpchlljelbpanaa.Pure
open Go.RowKit Go.Proofs.Ytpchlljelbpanaa.PVariTables Go.Proofs.Ytpchlljelbpanaa.PV4 Go.Proofs.YtpchlljelbpanaaW.PrintWords Go.Proofs.YtpchlljelbpanaaW.PrintLast Go.Proofs.YtpchlljelbpanaaW.PrintMore

theorem wf_range {a : Int} (h : (Lit.int .i64 a).wf = true) : -9223372036854775808 ≤ a ∧ a ≤ 9223372036854775807 := by
  simp [Lit.wf, IntKind.min, IntKind.max, IntKind.bits, IntKind.signed] at h
  omega
theorem w64 {x : Int} (h0 : -9223372036854775808 ≤ x) (h1 : x ≤ 9223372036854775807) : wrap64 x = x := by
  unfold wrap64; omega
theorem u64_w (x : Int) : IntKind.u64.wrap x = x % 18446744073709551616 := by simp [IntKind.wrap, IntKind.bits, IntKind.signed]
theorem u16_w (x : Int) : IntKind.u16.wrap x = x % 65536 := by simp [IntKind.wrap, IntKind.bits, IntKind.signed]
theorem i16_w (x : Int) : IntKind.i16.wrap x = (x + 32768) % 65536 - 32768 := by
  simp [IntKind.wrap, IntKind.bits, IntKind.signed]
  split <;> omega
theorem i64_w' (x : Int) : IntKind.i64.wrap x = wrap64 x := by
  simp [IntKind.wrap, IntKind.bits, IntKind.signed, wrap64]
  split <;> omega
theorem p2 (b : Nat) (hb : b ≤ 61) : 1 ≤ (2 : Int) ^ b ∧ (2 : Int) ^ b ≤ 2305843009213693952 := by
  have hN : (2 : Nat) ^ b ≤ 2 ^ 61 := Nat.pow_le_pow_right (by decide) hb
  have hP : 1 ≤ (2 : Nat) ^ b := Nat.one_le_two_pow
  have e : (2 : Int) ^ b = ((2 ^ b : Nat) : Int) := by simp
  rw [e]
  generalize (2 : Nat) ^ b = m at hN hP
  omega
/-- A shift of 1 by a count within 61. -/
theorem shl1 (n : Int) (h0 : 0 ≤ n) (h1 : n ≤ 61) : shl .i64 1 n = 2 ^ n.toNat ∧ 1 ≤ shl .i64 1 n ∧ shl .i64 1 n ≤ 2305843009213693952 := by
  have hp := p2 n.toNat (by omega)
  have e : shl .i64 1 n = 2 ^ n.toNat := by
    unfold shl
    have : min n.toNat IntKind.i64.bits = n.toNat := by simp [IntKind.bits]; omega
    rw [this, Int.one_mul, i64_w', w64 (by omega) (by omega)]
  rw [e]; exact ⟨rfl, hp.1, hp.2⟩
/-- What Clip answers. -/
def clipV (n h : Int) : Int × Bool := if n > h then (h, true) else if n < -h - 1 then (-h - 1, true) else (n, false)
theorem clip_bad (k : Nat) (n b : Int) (h : b < 1 ∨ 62 < b) : scale_Clip.f (k + 1) n b = some (0, true) := by
  unfold scale_Clip.f
  by_cases c : b < 1
  · rw [if_pos c]; simp only [scale_Clip.j0, if_true]
  · have : decide (b > 62) = true := decide_eq_true (by omega)
    rw [if_neg c, this]; simp only [scale_Clip.j0, if_true]
theorem clip_good (k : Nat) (n b : Int) (h0 : 1 ≤ b) (h1 : b ≤ 62) : scale_Clip.f (k + 1) n b = some (clipV n (shl .i64 1 (b - 1) - 1)) := by
  obtain ⟨_, l, u⟩ := shl1 (b - 1) (by omega) (by omega)
  have e1 : wrap64 (b - 1) = b - 1 := w64 (by omega) (by omega)
  have e2 : wrap64 (shl .i64 1 (b - 1) - 1) = shl .i64 1 (b - 1) - 1 := w64 (by omega) (by omega)
  have e3 : wrap64 (-(shl .i64 1 (b - 1) - 1)) = -(shl .i64 1 (b - 1) - 1) := w64 (by omega) (by omega)
  have e4 : wrap64 (-(shl .i64 1 (b - 1) - 1) - 1) = -(shl .i64 1 (b - 1) - 1) - 1 := w64 (by omega) (by omega)
  have d : decide (b > 62) = false := decide_eq_false (by omega)
  unfold scale_Clip.f
  rw [if_neg (by omega), d]
  simp only [scale_Clip.j0]
  rw [if_neg (by decide), e1, e2, e3, e4, if_pos (by omega)]
  unfold clipV
  split
  · rfl
  · split <;> rfl
theorem shl31 : shl .i64 1 (32 - 1) - 1 = 2147483647 := by decide +kernel
theorem clip32 (k : Nat) (n : Int) : scale_Clip.f (k + 1) n 32 = some (clipV n 2147483647) := by
  rw [clip_good k n 32 (by decide) (by decide), show shl .i64 1 (32 - 1) - 1 = 2147483647 by decide +kernel]
theorem clip16 (k : Nat) (n : Int) : scale_Clip.f (k + 1) n 16 = some (clipV n 32767) := by
  rw [clip_good k n 16 (by decide) (by decide), show shl .i64 1 (16 - 1) - 1 = 32767 by decide +kernel]
def kindV (g : Int) : Int := if g = 1 ∨ g = 2 then 1 else if g = 3 ∨ g = 4 then 2 else if g = 10 then 6 else if g = 20 ∨ g = 22 then 4 else if g = 21 then 5 else if g = 30 ∨ g = 32 then 3 else if g = 40 then 7 else 0
theorem kind_set (g : Int) (h : kindV g ≠ 0) : g = 1 ∨ g = 2 ∨ g = 3 ∨ g = 4 ∨ g = 10 ∨ g = 20 ∨ g = 21 ∨ g = 22 ∨ g = 30 ∨ g = 32 ∨ g = 40 := by
  unfold kindV at h
  omega
theorem kind_ok (k : Nat) (g : Int) : vari_Kind.f (k + 5) g = some (kindV g) := by
  by_cases h : kindV g = 0
  · have hn : g ≠ 1 ∧ g ≠ 2 ∧ g ≠ 3 ∧ g ≠ 4 ∧ g ≠ 10 ∧ g ≠ 20 ∧ g ≠ 21 ∧ g ≠ 22 ∧ g ≠ 30 ∧ g ≠ 32 ∧ g ≠ 40 := by
      refine ⟨?_, ?_, ?_, ?_, ?_, ?_, ?_, ?_, ?_, ?_, ?_⟩ <;> (rintro rfl; revert h; decide)
    obtain ⟨h1, h2, h3, h4, h5, h6, h7, h8, h9, h10, h11⟩ := hn
    rw [h]
    simp [vari_Kind.f, vari_Kind.j0, vari_Kind.j1, vari_Kind.j2, vari_Kind.j3, h1, h2, h3, h4, h5, h6, h7, h8, h9, h10, h11]
  · rcases kind_set g h with rfl | rfl | rfl | rfl | rfl | rfl | rfl | rfl | rfl | rfl | rfl <;> rfl
theorem shape_none (k : Nat) (g v : Int) (hg : 0 ≤ g ∧ g ≤ 255) (hv : 0 ≤ v ∧ v ≤ 99) (h : 100 * g + v ≠ 102 ∧ 100 * g + v ≠ 1002 ∧ 100 * g + v ≠ 302 ∧ 100 * g + v ≠ 201 ∧ 100 * g + v ≠ 401 ∧ 100 * g + v ≠ 202 ∧ 100 * g + v ≠ 402 ∧ 100 * g + v ≠ 2001 ∧ 100 * g + v ≠ 2101 ∧ 100 * g + v ≠ 2201 ∧ 100 * g + v ≠ 3001 ∧ 100 * g + v ≠ 4001 ∧ 100 * g + v ≠ 3201 ∧ 100 * g + v ≠ 2205 ∧ 100 * g + v ≠ 3203 ∧ 100 * g + v ≠ 3002 ∧ 100 * g + v ≠ 4002 ∧ 100 * g + v ≠ 3202) : vari_shape.f (k + 5) g v = some (0, false, false) := by
  have e : wrap64 (wrap64 (100 * g) + v) = 100 * g + v := by rw [w64 (x := 100 * g) (by omega) (by omega), w64 (by omega) (by omega)]
  obtain ⟨n0, n1, n2, n3, n4, n5, n6, n7, n8, n9, n10, n11, n12, n13, n14, n15, n16, n17⟩ := h
  unfold vari_shape.f
  rw [e]
  generalize 100 * g + v = c at *
  simp [vari_shape.j0, vari_shape.j1, vari_shape.j2, vari_shape.j3, n0, n1, n2, n3, n4, n5, n6, n7, n8, n9, n10, n11, n12, n13, n14, n15, n16, n17]
theorem size_out (g v : Int) (h : g < 0 ∨ 255 < g ∨ v < 0 ∨ 99 < v) : vari_Size.f 29 g v = some (0, false) := by
  unfold vari_Size.f
  by_cases h1 : g < 0
  · rw [if_pos h1]; rfl
  · rw [if_neg h1]
    by_cases h2 : g > 255
    · rw [if_pos h2]; rfl
    · rw [if_neg h2]
      by_cases h3 : v < 0
      · rw [if_pos h3]; rfl
      · rw [if_neg h3, decide_eq_true (by omega : v > 99)]; rfl
theorem put_out (g v a b c d : Int) (h : kindV g = 0 ∨ v < 0 ∨ 99 < v) : vari_Put.f 29 g v a b c d = some ([], false) := by
  unfold vari_Put.f vari_shaped.f
  rw [kind_ok 24]
  simp only [Option.bind_some]
  by_cases h1 : kindV g = 0
  · rw [if_pos h1]; rfl
  · rw [if_neg h1]
    by_cases h2 : v < 0
    · rw [if_pos h2]; rfl
    · rw [if_neg h2, if_pos (by omega)]; rfl
theorem put_none (g v a b c d : Int) (hg : 0 ≤ g ∧ g ≤ 255) (hv : 0 ≤ v ∧ v ≤ 99) (h : 100 * g + v ≠ 102 ∧ 100 * g + v ≠ 1002 ∧ 100 * g + v ≠ 302 ∧ 100 * g + v ≠ 201 ∧ 100 * g + v ≠ 401 ∧ 100 * g + v ≠ 202 ∧ 100 * g + v ≠ 402 ∧ 100 * g + v ≠ 2001 ∧ 100 * g + v ≠ 2101 ∧ 100 * g + v ≠ 2201 ∧ 100 * g + v ≠ 3001 ∧ 100 * g + v ≠ 4001 ∧ 100 * g + v ≠ 3201 ∧ 100 * g + v ≠ 2205 ∧ 100 * g + v ≠ 3203 ∧ 100 * g + v ≠ 3002 ∧ 100 * g + v ≠ 4002 ∧ 100 * g + v ≠ 3202) : vari_Put.f 29 g v a b c d = some ([], false) := by
  have hs := shape_none 24 g v hg hv h
  unfold vari_Put.f vari_shaped.f
  rw [kind_ok 24]
  simp only [Option.bind_some]
  by_cases h1 : kindV g = 0
  · rw [if_pos h1]; rfl
  · rw [if_neg h1, if_neg (by omega), if_neg (by omega), hs]; rfl
open Go.Proofs.Ytpchlljelbpanaa.Vari (getV sI)
open Go.Proofs.Ytpchlljelbpanaa.Num (le leB leB_range leB_length)
/-- A number's bytes, as Put takes them. -/
def sp (n : Nat) (v : Int) : List Int := (List.range n).map fun (i : Nat) => shr .i64 v (8 * (i : Int)) % 256
def xA (N F : Int) : Int := bits .or .i64 (bits .and .i64 F 7) (wrap64 (bits .and .i64 N 1 * 128)) % 256
def xB (N F : Int) : Int := bits .or .i64 (bits .and .i64 F 7) (wrap64 (bits .and .i64 N 3 * 64)) % 256
def xC (F : Int) (c : Bool) : Int := (if c then bits .or .i64 (bits .and .i64 F 7) 32 else bits .and .i64 F 7) % 256
def tmV (T b : Int) : Int := wrap64 (bits .and .i64 (mx b 0) 281474976710655 + bits .and .i64 (mx T 0) 281474976710655)
theorem shr_at (v : Int) (i : Nat) (h : i ≤ 7) : shr .i64 v (8 * i) = v / 256 ^ i := by
  have e : min (8 * (i : Int)).toNat IntKind.i64.bits = 8 * i := by
    have : IntKind.i64.bits = 64 := rfl
    omega
  unfold shr
  rw [e, Int.pow_mul]
  rfl
theorem sp2 (v : Int) : sp 2 v = leB 2 v := by
  show [shr .i64 v (8 * (0 : Nat)) % 256, shr .i64 v (8 * (1 : Nat)) % 256] = [v % 256, v / 256 % 256]
  rw [shr_at v 0 (by decide), shr_at v 1 (by decide)]
  simp only [List.cons.injEq, and_true]
  refine ⟨?_, ?_⟩ <;> omega
theorem sp4 (v : Int) : sp 4 v = leB 4 v := by
  show [shr .i64 v (8 * (0 : Nat)) % 256, shr .i64 v (8 * (1 : Nat)) % 256, shr .i64 v (8 * (2 : Nat)) % 256, shr .i64 v (8 * (3 : Nat)) % 256] = [v % 256, v / 256 % 256, v / 256 / 256 % 256, v / 256 / 256 / 256 % 256]
  rw [shr_at v 0 (by decide), shr_at v 1 (by decide), shr_at v 2 (by decide), shr_at v 3 (by decide)]
  simp only [List.cons.injEq, and_true]
  refine ⟨?_, ?_, ?_, ?_⟩ <;> omega
theorem put_1_2 (N F T b : Int) : vari_Put.f 29 1 2 N F T b = some ([xA N F], true) := by kernel_rfl
theorem put_10_2 (N F T b : Int) : vari_Put.f 29 10 2 N F T b = some ([xA N F], true) := by kernel_rfl
theorem put_2_1 (N F T b : Int) : vari_Put.f 29 2 1 N F T b = some ([xA N F], true) := by kernel_rfl
theorem put_3_2 (N F T b : Int) : vari_Put.f 29 3 2 N F T b = some ([xB N F], true) := by kernel_rfl
theorem put_4_1 (N F T b : Int) : vari_Put.f 29 4 1 N F T b = some ([xB N F], true) := by kernel_rfl
theorem put_2_2 (N F T b : Int) : vari_Put.f 29 2 2 N F T b = some (xA N F :: sp 6 (tmV T b), true) := by kernel_rfl
theorem put_4_2 (N F T b : Int) : vari_Put.f 29 4 2 N F T b = some (xB N F :: sp 6 (tmV T b), true) := by kernel_rfl
theorem put_20_1 (N F T b : Int) : vari_Put.f 29 20 1 N F T b = some (xC F false :: sp 4 N, true) := by kernel_rfl
theorem put_21_1 (N F T b : Int) : vari_Put.f 29 21 1 N F T b = some (xC F false :: sp 4 N, true) := by kernel_rfl
theorem put_22_1 (N F T b : Int) : vari_Put.f 29 22 1 N F T b = some (xC F false :: sp 4 N, true) := by kernel_rfl
theorem put_22_5 (N F T b : Int) : vari_Put.f 29 22 5 N F T b = some (xC F false :: (sp 4 N ++ sp 6 (tmV T b)), true) := by kernel_rfl
theorem put_30_1 (N F T b y : Int) (cut : Bool) (hc : clipV N 2147483647 = (y, cut)) : vari_Put.f 29 30 1 N F T b = some (xC F cut :: sp 4 y, true) := by
  have e : vari_Put.f 29 30 1 N F T b = (scale_Clip.f 27 N 32).bind fun bt => if bt.2 = true then vari_Put.j2 27 b 4 false (bits .or .i64 (bits .and .i64 F 7) 32) bt.1 N F T else vari_Put.j2 27 b 4 false (bits .and .i64 F 7) bt.1 N F T := by kernel_rfl
  rw [e, clip32 26, hc]
  cases cut
  · exact (show vari_Put.j2 27 b 4 false (bits .and .i64 F 7) y N F T = some (xC F false :: sp 4 y, true) by kernel_rfl)
  · exact (show vari_Put.j2 27 b 4 false (bits .or .i64 (bits .and .i64 F 7) 32) y N F T = some (xC F true :: sp 4 y, true) by kernel_rfl)
theorem put_40_1 (N F T b y : Int) (cut : Bool) (hc : clipV N 2147483647 = (y, cut)) : vari_Put.f 29 40 1 N F T b = some (xC F cut :: sp 4 y, true) := by
  have e : vari_Put.f 29 40 1 N F T b = (scale_Clip.f 27 N 32).bind fun bt => if bt.2 = true then vari_Put.j2 27 b 4 false (bits .or .i64 (bits .and .i64 F 7) 32) bt.1 N F T else vari_Put.j2 27 b 4 false (bits .and .i64 F 7) bt.1 N F T := by kernel_rfl
  rw [e, clip32 26, hc]
  cases cut
  · exact (show vari_Put.j2 27 b 4 false (bits .and .i64 F 7) y N F T = some (xC F false :: sp 4 y, true) by kernel_rfl)
  · exact (show vari_Put.j2 27 b 4 false (bits .or .i64 (bits .and .i64 F 7) 32) y N F T = some (xC F true :: sp 4 y, true) by kernel_rfl)
theorem put_32_1 (N F T b y : Int) (cut : Bool) (hc : clipV N 2147483647 = (y, cut)) : vari_Put.f 29 32 1 N F T b = some (xC F cut :: sp 4 y, true) := by
  have e : vari_Put.f 29 32 1 N F T b = (scale_Clip.f 27 N 32).bind fun bt => if bt.2 = true then vari_Put.j2 27 b 4 false (bits .or .i64 (bits .and .i64 F 7) 32) bt.1 N F T else vari_Put.j2 27 b 4 false (bits .and .i64 F 7) bt.1 N F T := by kernel_rfl
  rw [e, clip32 26, hc]
  cases cut
  · exact (show vari_Put.j2 27 b 4 false (bits .and .i64 F 7) y N F T = some (xC F false :: sp 4 y, true) by kernel_rfl)
  · exact (show vari_Put.j2 27 b 4 false (bits .or .i64 (bits .and .i64 F 7) 32) y N F T = some (xC F true :: sp 4 y, true) by kernel_rfl)
theorem put_30_2 (N F T b y : Int) (cut : Bool) (hc : clipV N 32767 = (y, cut)) : vari_Put.f 29 30 2 N F T b = some (xC F cut :: sp 2 y, true) := by
  have e : vari_Put.f 29 30 2 N F T b = (scale_Clip.f 27 N 16).bind fun bt => if bt.2 = true then vari_Put.j2 27 b 2 false (bits .or .i64 (bits .and .i64 F 7) 32) bt.1 N F T else vari_Put.j2 27 b 2 false (bits .and .i64 F 7) bt.1 N F T := by kernel_rfl
  rw [e, clip16 26, hc]
  cases cut
  · exact (show vari_Put.j2 27 b 2 false (bits .and .i64 F 7) y N F T = some (xC F false :: sp 2 y, true) by kernel_rfl)
  · exact (show vari_Put.j2 27 b 2 false (bits .or .i64 (bits .and .i64 F 7) 32) y N F T = some (xC F true :: sp 2 y, true) by kernel_rfl)
theorem put_40_2 (N F T b y : Int) (cut : Bool) (hc : clipV N 32767 = (y, cut)) : vari_Put.f 29 40 2 N F T b = some (xC F cut :: sp 2 y, true) := by
  have e : vari_Put.f 29 40 2 N F T b = (scale_Clip.f 27 N 16).bind fun bt => if bt.2 = true then vari_Put.j2 27 b 2 false (bits .or .i64 (bits .and .i64 F 7) 32) bt.1 N F T else vari_Put.j2 27 b 2 false (bits .and .i64 F 7) bt.1 N F T := by kernel_rfl
  rw [e, clip16 26, hc]
  cases cut
  · exact (show vari_Put.j2 27 b 2 false (bits .and .i64 F 7) y N F T = some (xC F false :: sp 2 y, true) by kernel_rfl)
  · exact (show vari_Put.j2 27 b 2 false (bits .or .i64 (bits .and .i64 F 7) 32) y N F T = some (xC F true :: sp 2 y, true) by kernel_rfl)
theorem put_32_2 (N F T b y : Int) (cut : Bool) (hc : clipV N 32767 = (y, cut)) : vari_Put.f 29 32 2 N F T b = some (xC F cut :: sp 2 y, true) := by
  have e : vari_Put.f 29 32 2 N F T b = (scale_Clip.f 27 N 16).bind fun bt => if bt.2 = true then vari_Put.j2 27 b 2 false (bits .or .i64 (bits .and .i64 F 7) 32) bt.1 N F T else vari_Put.j2 27 b 2 false (bits .and .i64 F 7) bt.1 N F T := by kernel_rfl
  rw [e, clip16 26, hc]
  cases cut
  · exact (show vari_Put.j2 27 b 2 false (bits .and .i64 F 7) y N F T = some (xC F false :: sp 2 y, true) by kernel_rfl)
  · exact (show vari_Put.j2 27 b 2 false (bits .or .i64 (bits .and .i64 F 7) 32) y N F T = some (xC F true :: sp 2 y, true) by kernel_rfl)
theorem put_32_3 (N F T b y : Int) (cut : Bool) (hc : clipV N 2147483647 = (y, cut)) : vari_Put.f 29 32 3 N F T b = some (xC F cut :: (sp 4 y ++ sp 6 (tmV T b)), true) := by
  have e : vari_Put.f 29 32 3 N F T b = (scale_Clip.f 27 N 32).bind fun bt => if bt.2 = true then vari_Put.j2 27 b 4 true (bits .or .i64 (bits .and .i64 F 7) 32) bt.1 N F T else vari_Put.j2 27 b 4 true (bits .and .i64 F 7) bt.1 N F T := by kernel_rfl
  rw [e, clip32 26, hc]
  cases cut
  · exact (show vari_Put.j2 27 b 4 true (bits .and .i64 F 7) y N F T = some (xC F false :: (sp 4 y ++ sp 6 (tmV T b)), true) by kernel_rfl)
  · exact (show vari_Put.j2 27 b 4 true (bits .or .i64 (bits .and .i64 F 7) 32) y N F T = some (xC F true :: (sp 4 y ++ sp 6 (tmV T b)), true) by kernel_rfl)
theorem and7 (n : Int) : bits .and .i64 n 7 = n % 8 := by
  have h127 : (BitVec.ofInt 64 7).toNat = 2 ^ 3 - 1 := by decide
  have key : (BitVec.ofInt 64 n &&& BitVec.ofInt 64 7).toNat = (n % ((2 ^ 64 : Nat) : Int)).toNat % 2 ^ 3 := by
    rw [BitVec.toNat_and, BitVec.toNat_ofInt, h127, Nat.and_two_pow_sub_one_eq_mod]
  show IntKind.i64.wrap ((BitVec.ofInt 64 n &&& BitVec.ofInt 64 7).toNat : Nat) = n % 8
  rw [key, i64_w']
  unfold wrap64
  omega
/-- The byte of flags: its range, the flags back, the mark of a clipped number. -/
theorem flagbits (f : Int) (h : 0 ≤ f ∧ f ≤ 7) (c : Bool) : (0 ≤ (if c then bits .or .i64 f 32 else f) % 256 ∧ (if c then bits .or .i64 f 32 else f) % 256 ≤ 255) ∧
    bits .and .i64 ((if c then bits .or .i64 f 32 else f) % 256) 7 = f ∧ ((bits .and .i64 (wrap64 ((if c then bits .or .i64 f 32 else f) % 256)) 32) != 0) = c := by
  rcases (by omega : f = 0 ∨ f = 1 ∨ f = 2 ∨ f = 3 ∨ f = 4 ∨ f = 5 ∨ f = 6 ∨ f = 7) with rfl | rfl | rfl | rfl | rfl | rfl | rfl | rfl <;> cases c <;> decide +kernel
theorem modstep (v : Int) (m : Int) : v % 256 + 256 * (v / 256 % m) = v % (256 * m) := by
  have h1 := Int.emod_add_mul_ediv v (256 * m)
  have h2 := Int.emod_add_mul_ediv (v / 256) m
  have h3 : v / (256 * m) = v / 256 / m := (Int.ediv_ediv_of_nonneg (by decide)).symm
  have h4 : v = v % 256 + 256 * (v / 256) := by omega
  rw [h3] at h1
  generalize v / 256 / m = q at *
  generalize v / 256 % m = r at *
  have h5 : 256 * m * q = 256 * (m * q) := Int.mul_assoc _ _ _
  rw [h5] at h1
  generalize m * q = z at *
  omega
theorem le_leB (n : Nat) (v : Int) : le (leB n v) = v % 256 ^ n := by
  induction n generalizing v with
  | zero => simp only [leB, le, Int.pow_zero]; omega
  | succ n ih =>
    simp only [leB, le]
    rw [ih, Int.pow_succ, Int.mul_comm (256 ^ n) 256, modstep]
theorem clipV_bd (n h : Int) (hh : 0 ≤ h) : -h - 1 ≤ (clipV n h).1 ∧ (clipV n h).1 ≤ h := by
  unfold clipV
  split
  · exact ⟨by dsimp only; omega, by dsimp only; omega⟩
  · split
    · exact ⟨by dsimp only; omega, by dsimp only; omega⟩
    · exact ⟨by dsimp only; omega, by dsimp only; omega⟩
theorem code_of (g v a b : Int) (hv : 0 ≤ v ∧ v ≤ 99) (hb : 0 ≤ b ∧ b ≤ 99) (e : 100 * g + v = 100 * a + b) : g = a ∧ v = b := by omega
theorem size_none (g v : Int) (hg : 0 ≤ g ∧ g ≤ 255) (hv : 0 ≤ v ∧ v ≤ 99) (h : 100 * g + v ≠ 102 ∧ 100 * g + v ≠ 1002 ∧ 100 * g + v ≠ 302 ∧ 100 * g + v ≠ 201 ∧ 100 * g + v ≠ 401 ∧ 100 * g + v ≠ 202 ∧ 100 * g + v ≠ 402 ∧ 100 * g + v ≠ 2001 ∧ 100 * g + v ≠ 2101 ∧ 100 * g + v ≠ 2201 ∧ 100 * g + v ≠ 3001 ∧ 100 * g + v ≠ 4001 ∧ 100 * g + v ≠ 3201 ∧ 100 * g + v ≠ 2205 ∧ 100 * g + v ≠ 3203 ∧ 100 * g + v ≠ 3002 ∧ 100 * g + v ≠ 4002 ∧ 100 * g + v ≠ 3202 ∧ 100 * g + v ≠ 1201 ∧ 100 * g + v ≠ 4101 ∧ 100 * g + v ≠ 4102 ∧ 100 * g + v ≠ 5001 ∧ 100 * g + v ≠ 5202 ∧ 100 * g + v ≠ 8001) : vari_Size.f 29 g v = some (0, false) := by
  have e : wrap64 (wrap64 (100 * g) + v) = 100 * g + v := by rw [w64 (x := 100 * g) (by omega) (by omega), w64 (by omega) (by omega)]
  obtain ⟨n0, n1, n2, n3, n4, n5, n6, n7, n8, n9, n10, n11, n12, n13, n14, n15, n16, n17, n18, n19, n20, n21, n22, n23⟩ := h
  have hs := shape_none 23 g v hg hv ⟨n0, n1, n2, n3, n4, n5, n6, n7, n8, n9, n10, n11, n12, n13, n14, n15, n16, n17⟩
  unfold vari_Size.f
  rw [if_neg (by omega), if_neg (by omega), if_neg (by omega), decide_eq_false (by omega)]
  show vari_Size.j0 (28 + 1) g v false = _
  rw [vari_Size.j0, if_neg (by decide), hs]
  simp only [Option.bind_some]
  rw [if_neg (by decide), e, if_neg n18, if_neg n19, if_neg n20, if_neg n21, if_neg n22, if_neg n23]
set_option maxHeartbeats 4000000 in
theorem size_put (g v : Int) : ∃ n b L ok, vari_Size.f 29 g v = some (n, b) ∧ vari_Put.f 29 g v 0 0 0 0 = some (L, ok) ∧ b = decide (n > 0) ∧ (kindV g = 0 → ok = false) ∧ (kindV g ≠ 0 → b = ok) := by
  by_cases ho : g < 0 ∨ 255 < g ∨ v < 0 ∨ 99 < v
  · by_cases hk : kindV g = 0
    · exact ⟨0, false, [], false, size_out g v ho, put_out g v 0 0 0 0 (.inl hk), by decide, fun _ => rfl, fun _ => rfl⟩
    · have := kind_set g hk
      exact ⟨0, false, [], false, size_out g v ho, put_out g v 0 0 0 0 (by omega), by decide, fun _ => rfl, fun _ => rfl⟩
  have hg : 0 ≤ g ∧ g ≤ 255 := by omega
  have hv : 0 ≤ v ∧ v ≤ 99 := by omega
  clear ho
  by_cases h102 : g = 1 ∧ v = 2
  · obtain ⟨rfl, rfl⟩ := h102
    exact ⟨1, true, [0], true, by kernel_rfl, by kernel_rfl, by decide, fun h => absurd h (by decide), fun _ => rfl⟩
  by_cases h1002 : g = 10 ∧ v = 2
  · obtain ⟨rfl, rfl⟩ := h1002
    exact ⟨1, true, [0], true, by kernel_rfl, by kernel_rfl, by decide, fun h => absurd h (by decide), fun _ => rfl⟩
  by_cases h302 : g = 3 ∧ v = 2
  · obtain ⟨rfl, rfl⟩ := h302
    exact ⟨1, true, [0], true, by kernel_rfl, by kernel_rfl, by decide, fun h => absurd h (by decide), fun _ => rfl⟩
  by_cases h201 : g = 2 ∧ v = 1
  · obtain ⟨rfl, rfl⟩ := h201
    exact ⟨1, true, [0], true, by kernel_rfl, by kernel_rfl, by decide, fun h => absurd h (by decide), fun _ => rfl⟩
  by_cases h401 : g = 4 ∧ v = 1
  · obtain ⟨rfl, rfl⟩ := h401
    exact ⟨1, true, [0], true, by kernel_rfl, by kernel_rfl, by decide, fun h => absurd h (by decide), fun _ => rfl⟩
  by_cases h202 : g = 2 ∧ v = 2
  · obtain ⟨rfl, rfl⟩ := h202
    exact ⟨7, true, [0, 0, 0, 0, 0, 0, 0], true, by kernel_rfl, by kernel_rfl, by decide, fun h => absurd h (by decide), fun _ => rfl⟩
  by_cases h402 : g = 4 ∧ v = 2
  · obtain ⟨rfl, rfl⟩ := h402
    exact ⟨7, true, [0, 0, 0, 0, 0, 0, 0], true, by kernel_rfl, by kernel_rfl, by decide, fun h => absurd h (by decide), fun _ => rfl⟩
  by_cases h2001 : g = 20 ∧ v = 1
  · obtain ⟨rfl, rfl⟩ := h2001
    exact ⟨5, true, [0, 0, 0, 0, 0], true, by kernel_rfl, by kernel_rfl, by decide, fun h => absurd h (by decide), fun _ => rfl⟩
  by_cases h2101 : g = 21 ∧ v = 1
  · obtain ⟨rfl, rfl⟩ := h2101
    exact ⟨5, true, [0, 0, 0, 0, 0], true, by kernel_rfl, by kernel_rfl, by decide, fun h => absurd h (by decide), fun _ => rfl⟩
  by_cases h2201 : g = 22 ∧ v = 1
  · obtain ⟨rfl, rfl⟩ := h2201
    exact ⟨5, true, [0, 0, 0, 0, 0], true, by kernel_rfl, by kernel_rfl, by decide, fun h => absurd h (by decide), fun _ => rfl⟩
  by_cases h3001 : g = 30 ∧ v = 1
  · obtain ⟨rfl, rfl⟩ := h3001
    exact ⟨5, true, [0, 0, 0, 0, 0], true, by kernel_rfl, by kernel_rfl, by decide, fun h => absurd h (by decide), fun _ => rfl⟩
  by_cases h4001 : g = 40 ∧ v = 1
  · obtain ⟨rfl, rfl⟩ := h4001
    exact ⟨5, true, [0, 0, 0, 0, 0], true, by kernel_rfl, by kernel_rfl, by decide, fun h => absurd h (by decide), fun _ => rfl⟩
  by_cases h3201 : g = 32 ∧ v = 1
  · obtain ⟨rfl, rfl⟩ := h3201
    exact ⟨5, true, [0, 0, 0, 0, 0], true, by kernel_rfl, by kernel_rfl, by decide, fun h => absurd h (by decide), fun _ => rfl⟩
  by_cases h2205 : g = 22 ∧ v = 5
  · obtain ⟨rfl, rfl⟩ := h2205
    exact ⟨11, true, [0, 0, 0, 0, 0, 0, 0, 0, 0, 0, 0], true, by kernel_rfl, by kernel_rfl, by decide, fun h => absurd h (by decide), fun _ => rfl⟩
  by_cases h3203 : g = 32 ∧ v = 3
  · obtain ⟨rfl, rfl⟩ := h3203
    exact ⟨11, true, [0, 0, 0, 0, 0, 0, 0, 0, 0, 0, 0], true, by kernel_rfl, by kernel_rfl, by decide, fun h => absurd h (by decide), fun _ => rfl⟩
  by_cases h3002 : g = 30 ∧ v = 2
  · obtain ⟨rfl, rfl⟩ := h3002
    exact ⟨3, true, [0, 0, 0], true, by kernel_rfl, by kernel_rfl, by decide, fun h => absurd h (by decide), fun _ => rfl⟩
  by_cases h4002 : g = 40 ∧ v = 2
  · obtain ⟨rfl, rfl⟩ := h4002
    exact ⟨3, true, [0, 0, 0], true, by kernel_rfl, by kernel_rfl, by decide, fun h => absurd h (by decide), fun _ => rfl⟩
  by_cases h3202 : g = 32 ∧ v = 2
  · obtain ⟨rfl, rfl⟩ := h3202
    exact ⟨3, true, [0, 0, 0], true, by kernel_rfl, by kernel_rfl, by decide, fun h => absurd h (by decide), fun _ => rfl⟩
  by_cases h1201 : g = 12 ∧ v = 1
  · obtain ⟨rfl, rfl⟩ := h1201
    exact ⟨11, true, [], false, by kernel_rfl, put_out _ _ 0 0 0 0 (.inl (by decide)), by decide, fun _ => rfl, fun h => absurd (by decide) h⟩
  by_cases h4101 : g = 41 ∧ v = 1
  · obtain ⟨rfl, rfl⟩ := h4101
    exact ⟨5, true, [], false, by kernel_rfl, put_out _ _ 0 0 0 0 (.inl (by decide)), by decide, fun _ => rfl, fun h => absurd (by decide) h⟩
  by_cases h4102 : g = 41 ∧ v = 2
  · obtain ⟨rfl, rfl⟩ := h4102
    exact ⟨3, true, [], false, by kernel_rfl, put_out _ _ 0 0 0 0 (.inl (by decide)), by decide, fun _ => rfl, fun h => absurd (by decide) h⟩
  by_cases h5001 : g = 50 ∧ v = 1
  · obtain ⟨rfl, rfl⟩ := h5001
    exact ⟨6, true, [], false, by kernel_rfl, put_out _ _ 0 0 0 0 (.inl (by decide)), by decide, fun _ => rfl, fun h => absurd (by decide) h⟩
  by_cases h5202 : g = 52 ∧ v = 2
  · obtain ⟨rfl, rfl⟩ := h5202
    exact ⟨2, true, [], false, by kernel_rfl, put_out _ _ 0 0 0 0 (.inl (by decide)), by decide, fun _ => rfl, fun h => absurd (by decide) h⟩
  by_cases h8001 : g = 80 ∧ v = 1
  · obtain ⟨rfl, rfl⟩ := h8001
    exact ⟨1, true, [], false, by kernel_rfl, put_out _ _ 0 0 0 0 (.inl (by decide)), by decide, fun _ => rfl, fun h => absurd (by decide) h⟩
  exact ⟨0, false, [], false, size_none g v hg hv ⟨fun e => h102 (code_of g v 1 2 hv (by decide) e), fun e => h1002 (code_of g v 10 2 hv (by decide) e), fun e => h302 (code_of g v 3 2 hv (by decide) e), fun e => h201 (code_of g v 2 1 hv (by decide) e), fun e => h401 (code_of g v 4 1 hv (by decide) e), fun e => h202 (code_of g v 2 2 hv (by decide) e), fun e => h402 (code_of g v 4 2 hv (by decide) e), fun e => h2001 (code_of g v 20 1 hv (by decide) e), fun e => h2101 (code_of g v 21 1 hv (by decide) e), fun e => h2201 (code_of g v 22 1 hv (by decide) e), fun e => h3001 (code_of g v 30 1 hv (by decide) e), fun e => h4001 (code_of g v 40 1 hv (by decide) e), fun e => h3201 (code_of g v 32 1 hv (by decide) e), fun e => h2205 (code_of g v 22 5 hv (by decide) e), fun e => h3203 (code_of g v 32 3 hv (by decide) e), fun e => h3002 (code_of g v 30 2 hv (by decide) e), fun e => h4002 (code_of g v 40 2 hv (by decide) e), fun e => h3202 (code_of g v 32 2 hv (by decide) e), fun e => h1201 (code_of g v 12 1 hv (by decide) e), fun e => h4101 (code_of g v 41 1 hv (by decide) e), fun e => h4102 (code_of g v 41 2 hv (by decide) e), fun e => h5001 (code_of g v 50 1 hv (by decide) e), fun e => h5202 (code_of g v 52 2 hv (by decide) e), fun e => h8001 (code_of g v 80 1 hv (by decide) e)⟩, put_none g v 0 0 0 0 hg hv ⟨fun e => h102 (code_of g v 1 2 hv (by decide) e), fun e => h1002 (code_of g v 10 2 hv (by decide) e), fun e => h302 (code_of g v 3 2 hv (by decide) e), fun e => h201 (code_of g v 2 1 hv (by decide) e), fun e => h401 (code_of g v 4 1 hv (by decide) e), fun e => h202 (code_of g v 2 2 hv (by decide) e), fun e => h402 (code_of g v 4 2 hv (by decide) e), fun e => h2001 (code_of g v 20 1 hv (by decide) e), fun e => h2101 (code_of g v 21 1 hv (by decide) e), fun e => h2201 (code_of g v 22 1 hv (by decide) e), fun e => h3001 (code_of g v 30 1 hv (by decide) e), fun e => h4001 (code_of g v 40 1 hv (by decide) e), fun e => h3201 (code_of g v 32 1 hv (by decide) e), fun e => h2205 (code_of g v 22 5 hv (by decide) e), fun e => h3203 (code_of g v 32 3 hv (by decide) e), fun e => h3002 (code_of g v 30 2 hv (by decide) e), fun e => h4002 (code_of g v 40 2 hv (by decide) e), fun e => h3202 (code_of g v 32 2 hv (by decide) e)⟩, by decide, fun _ => rfl, fun _ => rfl⟩
theorem sp6_range (v : Int) : ∀ z, z ∈ sp 6 v → 0 ≤ z ∧ z ≤ 255 := by
  intro z hz
  unfold sp at hz
  obtain ⟨i, _, rfl⟩ := List.mem_map.1 hz
  omega
theorem sp_range (n : Nat) (v : Int) : ∀ z, z ∈ sp n v → 0 ≤ z ∧ z ≤ 255 := by
  intro z hz
  unfold sp at hz
  obtain ⟨i, _, rfl⟩ := List.mem_map.1 hz
  omega
theorem and_bits (n : Int) : bits .and .i64 n 1 = n % 2 ∧ bits .and .i64 n 3 = n % 4 := by
  have h1 : (BitVec.ofInt 64 1).toNat = 2 ^ 1 - 1 := by decide
  have h3 : (BitVec.ofInt 64 3).toNat = 2 ^ 2 - 1 := by decide
  have k1 : (BitVec.ofInt 64 n &&& BitVec.ofInt 64 1).toNat = (n % ((2 ^ 64 : Nat) : Int)).toNat % 2 ^ 1 := by
    rw [BitVec.toNat_and, BitVec.toNat_ofInt, h1, Nat.and_two_pow_sub_one_eq_mod]
  have k3 : (BitVec.ofInt 64 n &&& BitVec.ofInt 64 3).toNat = (n % ((2 ^ 64 : Nat) : Int)).toNat % 2 ^ 2 := by
    rw [BitVec.toNat_and, BitVec.toNat_ofInt, h3, Nat.and_two_pow_sub_one_eq_mod]
  refine ⟨?_, ?_⟩
  · show IntKind.i64.wrap ((BitVec.ofInt 64 n &&& BitVec.ofInt 64 1).toNat : Nat) = n % 2
    rw [k1, i64_w']
    unfold wrap64
    omega
  · show IntKind.i64.wrap ((BitVec.ofInt 64 n &&& BitVec.ofInt 64 3).toNat : Nat) = n % 4
    rw [k3, i64_w']
    unfold wrap64
    omega
theorem bits_a (f n : Int) (hf : 0 ≤ f ∧ f ≤ 7) (hn : 0 ≤ n ∧ n ≤ 1) : (0 ≤ bits .or .i64 f (wrap64 (n * 128)) % 256 ∧ bits .or .i64 f (wrap64 (n * 128)) % 256 ≤ 255) ∧ bits .or .i64 f (wrap64 (n * 128)) % 256 / 128 = n ∧ bits .and .i64 (bits .or .i64 f (wrap64 (n * 128)) % 256) 7 = f := by
  rcases (by omega : f = 0 ∨ f = 1 ∨ f = 2 ∨ f = 3 ∨ f = 4 ∨ f = 5 ∨ f = 6 ∨ f = 7) with rfl | rfl | rfl | rfl | rfl | rfl | rfl | rfl <;> rcases (by omega : n = 0 ∨ n = 1) with rfl | rfl <;> decide +kernel
theorem bits_b (f n : Int) (hf : 0 ≤ f ∧ f ≤ 7) (hn : 0 ≤ n ∧ n ≤ 3) : (0 ≤ bits .or .i64 f (wrap64 (n * 64)) % 256 ∧ bits .or .i64 f (wrap64 (n * 64)) % 256 ≤ 255) ∧ bits .or .i64 f (wrap64 (n * 64)) % 256 / 64 = n ∧ bits .and .i64 (bits .or .i64 f (wrap64 (n * 64)) % 256) 7 = f := by
  rcases (by omega : f = 0 ∨ f = 1 ∨ f = 2 ∨ f = 3 ∨ f = 4 ∨ f = 5 ∨ f = 6 ∨ f = 7) with rfl | rfl | rfl | rfl | rfl | rfl | rfl | rfl <;> rcases (by omega : n = 0 ∨ n = 1 ∨ n = 2 ∨ n = 3) with rfl | rfl | rfl | rfl <;> decide +kernel
theorem back_rest (g v N F T : Int) (L : List Int) (gn gf gt : Int) (h : yardlaw18_VariBack.j0 29 g v L false N F T gn gf gt = some true) (hf : gf = bits .and .i64 F 7) : yardlaw18_VariBack.j0 29 g v L (gf != bits .and .i64 F 7) N F T gn gf gt = some true := by
  rw [hf, bne_self_eq_false, ← hf]
  exact h
/-- Put, Size and Get told: the law. -/
theorem back_join (g v N F T b : Int) (L : List Int) (gn gt : Int) (hp : vari_Put.f 29 g v N F T b = some (L, true)) (hs : vari_Size.f 29 g v = some ((L.length : Int), true))
    (hg : getV g v L = some (gn, bits .and .i64 F 7, gt, true)) (h : yardlaw18_VariBack.j0 29 g v L false N F T gn (bits .and .i64 F 7) gt = some true) : yardlaw18_VariBack.f 29 g v N F T b = some true := by
  unfold yardlaw18_VariBack.f
  simp only [yardlaw18_first.f, Option.bind_some, if_true, hp, hs]
  unfold vari_Get.f
  rw [hg]
  simp only [Option.bind_some, if_true, bne_self_eq_false]
  exact h
theorem flag8 (F : Int) : 0 ≤ bits .and .i64 F 7 ∧ bits .and .i64 F 7 ≤ 7 := by rw [and7]; omega
theorem range_one (x : Int) (l : List Int) (hx : 0 ≤ x ∧ x ≤ 255) (hl : ∀ z, z ∈ l → 0 ≤ z ∧ z ≤ 255) : ∀ z, z ∈ x :: l → 0 ≤ z ∧ z ≤ 255 := by
  intro z hz
  rcases List.mem_cons.1 hz with rfl | hz
  · exact hx
  · exact hl z hz
theorem range_two (x : Int) (l r : List Int) (hx : 0 ≤ x ∧ x ≤ 255) (hl : ∀ z, z ∈ l → 0 ≤ z ∧ z ≤ 255) (hr : ∀ z, z ∈ r → 0 ≤ z ∧ z ≤ 255) : ∀ z, z ∈ x :: (l ++ r) → 0 ≤ z ∧ z ≤ 255 := by
  intro z hz
  rcases List.mem_cons.1 hz with rfl | hz
  · exact hx
  · rcases List.mem_append.1 hz with hz | hz
    · exact hl z hz
    · exact hr z hz
theorem sI4 (y : Int) (hy : -2147483648 ≤ y ∧ y ≤ 2147483647) : sI 4 (y % 4294967296) = y := by
  show (if (2147483648 : Int) ≤ y % 4294967296 then y % 4294967296 - 4294967296 else y % 4294967296) = y
  split <;> omega
theorem sI4m (n : Int) : -2147483648 ≤ sI 4 (n % 4294967296) ∧ sI 4 (n % 4294967296) ≤ 2147483647 ∧ (sI 4 (n % 4294967296) - n) % 4294967296 = 0 := by
  show -2147483648 ≤ (if (2147483648 : Int) ≤ n % 4294967296 then n % 4294967296 - 4294967296 else n % 4294967296) ∧ (if (2147483648 : Int) ≤ n % 4294967296 then n % 4294967296 - 4294967296 else n % 4294967296) ≤ 2147483647 ∧ ((if (2147483648 : Int) ≤ n % 4294967296 then n % 4294967296 - 4294967296 else n % 4294967296) - n) % 4294967296 = 0
  split <;> omega
theorem sI2 (y : Int) (hy : -32768 ≤ y ∧ y ≤ 32767) : sI 2 (y % 65536) = y := by
  show (if (32768 : Int) ≤ y % 65536 then y % 65536 - 65536 else y % 65536) = y
  split <;> omega
theorem tmod0 (x : Int) (h : x % 4294967296 = 0) : Int.tmod (wrap64 x) 4294967296 = 0 := by
  apply Int.tmod_eq_zero_of_dvd
  apply Int.dvd_of_emod_eq_zero
  unfold wrap64
  omega
theorem j0_a (g v N F T gt : Int) (L : List Int) (hk : kindV g = 1 ∨ kindV g = 6) : yardlaw18_VariBack.j0 29 g v L false N F T (bits .and .i64 N 1) (bits .and .i64 F 7) gt = some true := by
  show yardlaw18_VariBack.j0 (27 + 1 + 1) g v L false N F T (bits .and .i64 N 1) (bits .and .i64 F 7) gt = some true
  rw [yardlaw18_VariBack.j0, if_neg (by decide), kind_ok 23]
  simp only [Option.bind_some]
  rcases hk with hk | hk
  · rw [hk, if_pos rfl, yardlaw18_VariBack.j1]
    simp [yardlaw18_first.f]
  · rw [hk, if_neg (by decide), yardlaw18_VariBack.j1]
    simp [yardlaw18_first.f]
theorem j0_b (g v N F T gt : Int) (L : List Int) (hk : kindV g = 2) : yardlaw18_VariBack.j0 29 g v L false N F T (bits .and .i64 N 3) (bits .and .i64 F 7) gt = some true := by
  show yardlaw18_VariBack.j0 (27 + 1 + 1) g v L false N F T (bits .and .i64 N 3) (bits .and .i64 F 7) gt = some true
  rw [yardlaw18_VariBack.j0, if_neg (by decide), kind_ok 23]
  simp only [Option.bind_some]
  rw [hk, if_neg (by decide), yardlaw18_VariBack.j1]
  simp [yardlaw18_first.f]
theorem j0_k (g v N F T gt gn : Int) (L : List Int) (hk : kindV g = 4 ∨ kindV g = 5) (h : (gn - N) % 4294967296 = 0) : yardlaw18_VariBack.j0 29 g v L false N F T gn (bits .and .i64 F 7) gt = some true := by
  show yardlaw18_VariBack.j0 (27 + 1 + 1) g v L false N F T gn (bits .and .i64 F 7) gt = some true
  rw [yardlaw18_VariBack.j0, if_neg (by decide), kind_ok 23]
  simp only [Option.bind_some]
  have e := tmod0 _ h
  rcases hk with hk | hk
  · rw [hk, if_neg (by decide), yardlaw18_VariBack.j1]
    simp [yardlaw18_first.f, e]
  · rw [hk, if_neg (by decide), yardlaw18_VariBack.j1]
    simp [yardlaw18_first.f, e]
theorem j0_c (g v N F T gt y : Int) (cut : Bool) (L : List Int) (x : Int) (hk : kindV g = 3 ∨ kindV g = 7) (hc : (if v = 2 then clipV N 32767 else clipV N 2147483647) = (y, cut)) (hL : L[0]? = some x) (hx : ((bits .and .i64 (wrap64 x) 32) != 0) = cut) :
    yardlaw18_VariBack.j0 29 g v L false N F T y (bits .and .i64 F 7) gt = some true := by
  show yardlaw18_VariBack.j0 (27 + 1 + 1) g v L false N F T y (bits .and .i64 F 7) gt = some true
  have hne : L ≠ [] := by
    rintro rfl
    cases hL
  have r0 : rd L 0 = x := by
    cases L with
    | nil => cases hL
    | cons a l => simp at hL; subst hL; rfl
  rw [yardlaw18_VariBack.j0, if_neg (by decide), kind_ok 23]
  simp only [Option.bind_some]
  by_cases hv : v = 2
  · rw [if_pos hv] at hc
    rcases hk with hk | hk
    · rw [hk, if_neg (by decide), yardlaw18_VariBack.j1]
      simp [yardlaw18_first.f, hv, clip16 26, hc, r0, hx, hne]
    · rw [hk, if_neg (by decide), yardlaw18_VariBack.j1]
      simp [yardlaw18_first.f, hv, clip16 26, hc, r0, hx, hne]
  · rw [if_neg hv] at hc
    rcases hk with hk | hk
    · rw [hk, if_neg (by decide), yardlaw18_VariBack.j1]
      simp [yardlaw18_first.f, hv, clip32 26, hc, r0, hx, hne]
    · rw [hk, if_neg (by decide), yardlaw18_VariBack.j1]
      simp [yardlaw18_first.f, hv, clip32 26, hc, r0, hx, hne]
/-- Where Put makes nothing. -/
theorem back_none (g v N F T b : Int) (hp : vari_Put.f 29 g v N F T b = some ([], false)) (n : Int) (kn : Bool) (hs : vari_Size.f 29 g v = some (n, kn)) (h : kindV g = 0 ∨ kn = false) : yardlaw18_VariBack.f 29 g v N F T b = some true := by
  unfold yardlaw18_VariBack.f
  simp only [yardlaw18_first.f, Option.bind_some, if_true, hp, hs]
  rw [if_neg (by decide), kind_ok 24]
  simp only [List.length_nil, Option.bind_some]
  rw [if_pos (by decide)]
  by_cases hk : kindV g = 0
  · rw [if_pos hk]
  · rw [if_neg hk]
    rcases h with h | h
    · exact absurd h hk
    · rw [h]; rfl
theorem size_is (g v : Int) : ∃ n kn, vari_Size.f 29 g v = some (n, kn) := by
  obtain ⟨n, kn, L, ok, h, _⟩ := size_put g v
  exact ⟨n, kn, h⟩
theorem back_1_2 (N F T b : Int) : yardlaw18_VariBack.f 29 1 2 N F T b = some true := by
  have hb := bits_a (bits .and .i64 F 7) (bits .and .i64 N 1) (flag8 F) (by rw [(and_bits N).1]; omega)
  have hg : getV 1 2 ([xA N F]) = some (xA N F / 128, bits .and .i64 (xA N F) 7, 0, true) := by
    unfold getV
    rw [if_pos (fun z hz => by obtain rfl := List.mem_singleton.1 hz; exact hb.1)]
    rw [if_pos (by decide), if_pos (show ([xA N F]).length = 1 from rfl)]
    rfl
  rw [show xA N F / 128 = bits .and .i64 N 1 from hb.2.1, show bits .and .i64 (xA N F) 7 = bits .and .i64 F 7 from hb.2.2] at hg
  exact back_join _ _ N F T b _ _ _ (put_1_2 N F T b) (show vari_Size.f 29 1 2 = some (((1 : Nat) : Int), true) by kernel_rfl) hg (j0_a _ _ N F T _ _ (by decide))
theorem back_10_2 (N F T b : Int) : yardlaw18_VariBack.f 29 10 2 N F T b = some true := by
  have hb := bits_a (bits .and .i64 F 7) (bits .and .i64 N 1) (flag8 F) (by rw [(and_bits N).1]; omega)
  have hg : getV 10 2 ([xA N F]) = some (xA N F / 128, bits .and .i64 (xA N F) 7, 0, true) := by
    unfold getV
    rw [if_pos (fun z hz => by obtain rfl := List.mem_singleton.1 hz; exact hb.1)]
    rw [if_neg (by decide), if_pos (by decide), if_pos (show ([xA N F]).length = 1 from rfl)]
    rfl
  rw [show xA N F / 128 = bits .and .i64 N 1 from hb.2.1, show bits .and .i64 (xA N F) 7 = bits .and .i64 F 7 from hb.2.2] at hg
  exact back_join _ _ N F T b _ _ _ (put_10_2 N F T b) (show vari_Size.f 29 10 2 = some (((1 : Nat) : Int), true) by kernel_rfl) hg (j0_a _ _ N F T _ _ (by decide))
theorem back_2_1 (N F T b : Int) : yardlaw18_VariBack.f 29 2 1 N F T b = some true := by
  have hb := bits_a (bits .and .i64 F 7) (bits .and .i64 N 1) (flag8 F) (by rw [(and_bits N).1]; omega)
  have hg : getV 2 1 ([xA N F]) = some (xA N F / 128, bits .and .i64 (xA N F) 7, 0, true) := by
    unfold getV
    rw [if_pos (fun z hz => by obtain rfl := List.mem_singleton.1 hz; exact hb.1)]
    rw [if_pos (by decide), if_pos (show ([xA N F]).length = 1 from rfl)]
    rfl
  rw [show xA N F / 128 = bits .and .i64 N 1 from hb.2.1, show bits .and .i64 (xA N F) 7 = bits .and .i64 F 7 from hb.2.2] at hg
  exact back_join _ _ N F T b _ _ _ (put_2_1 N F T b) (show vari_Size.f 29 2 1 = some (((1 : Nat) : Int), true) by kernel_rfl) hg (j0_a _ _ N F T _ _ (by decide))
theorem back_2_2 (N F T b : Int) : yardlaw18_VariBack.f 29 2 2 N F T b = some true := by
  have hb := bits_a (bits .and .i64 F 7) (bits .and .i64 N 1) (flag8 F) (by rw [(and_bits N).1]; omega)
  have hg : getV 2 2 (xA N F :: sp 6 (tmV T b)) = some (xA N F / 128, bits .and .i64 (xA N F) 7, le (sp 6 (tmV T b)), true) := by
    unfold getV
    rw [if_pos (range_one (xA N F) (sp 6 (tmV T b)) hb.1 (sp6_range _))]
    rw [if_neg (by decide), if_neg (by decide), if_pos (by decide), if_pos (show (xA N F :: sp 6 (tmV T b)).length = 7 from rfl)]
    rfl
  rw [show xA N F / 128 = bits .and .i64 N 1 from hb.2.1, show bits .and .i64 (xA N F) 7 = bits .and .i64 F 7 from hb.2.2] at hg
  exact back_join _ _ N F T b _ _ _ (put_2_2 N F T b) (show vari_Size.f 29 2 2 = some (((7 : Nat) : Int), true) by kernel_rfl) hg (j0_a _ _ N F T _ _ (by decide))
theorem back_3_2 (N F T b : Int) : yardlaw18_VariBack.f 29 3 2 N F T b = some true := by
  have hb := bits_b (bits .and .i64 F 7) (bits .and .i64 N 3) (flag8 F) (by rw [(and_bits N).2]; omega)
  have hg : getV 3 2 ([xB N F]) = some (xB N F / 64, bits .and .i64 (xB N F) 7, 0, true) := by
    unfold getV
    rw [if_pos (fun z hz => by obtain rfl := List.mem_singleton.1 hz; exact hb.1)]
    rw [if_neg (by decide), if_neg (by decide), if_neg (by decide), if_pos (by decide), if_pos (show ([xB N F]).length = 1 from rfl)]
    rfl
  rw [show xB N F / 64 = bits .and .i64 N 3 from hb.2.1, show bits .and .i64 (xB N F) 7 = bits .and .i64 F 7 from hb.2.2] at hg
  exact back_join _ _ N F T b _ _ _ (put_3_2 N F T b) (show vari_Size.f 29 3 2 = some (((1 : Nat) : Int), true) by kernel_rfl) hg (j0_b _ _ N F T _ _ (by decide))
theorem back_4_1 (N F T b : Int) : yardlaw18_VariBack.f 29 4 1 N F T b = some true := by
  have hb := bits_b (bits .and .i64 F 7) (bits .and .i64 N 3) (flag8 F) (by rw [(and_bits N).2]; omega)
  have hg : getV 4 1 ([xB N F]) = some (xB N F / 64, bits .and .i64 (xB N F) 7, 0, true) := by
    unfold getV
    rw [if_pos (fun z hz => by obtain rfl := List.mem_singleton.1 hz; exact hb.1)]
    rw [if_neg (by decide), if_neg (by decide), if_neg (by decide), if_pos (by decide), if_pos (show ([xB N F]).length = 1 from rfl)]
    rfl
  rw [show xB N F / 64 = bits .and .i64 N 3 from hb.2.1, show bits .and .i64 (xB N F) 7 = bits .and .i64 F 7 from hb.2.2] at hg
  exact back_join _ _ N F T b _ _ _ (put_4_1 N F T b) (show vari_Size.f 29 4 1 = some (((1 : Nat) : Int), true) by kernel_rfl) hg (j0_b _ _ N F T _ _ (by decide))
theorem back_4_2 (N F T b : Int) : yardlaw18_VariBack.f 29 4 2 N F T b = some true := by
  have hb := bits_b (bits .and .i64 F 7) (bits .and .i64 N 3) (flag8 F) (by rw [(and_bits N).2]; omega)
  have hg : getV 4 2 (xB N F :: sp 6 (tmV T b)) = some (xB N F / 64, bits .and .i64 (xB N F) 7, le (sp 6 (tmV T b)), true) := by
    unfold getV
    rw [if_pos (range_one (xB N F) (sp 6 (tmV T b)) hb.1 (sp6_range _))]
    rw [if_neg (by decide), if_neg (by decide), if_neg (by decide), if_neg (by decide), if_pos (by decide), if_pos (show (xB N F :: sp 6 (tmV T b)).length = 7 from rfl)]
    rfl
  rw [show xB N F / 64 = bits .and .i64 N 3 from hb.2.1, show bits .and .i64 (xB N F) 7 = bits .and .i64 F 7 from hb.2.2] at hg
  exact back_join _ _ N F T b _ _ _ (put_4_2 N F T b) (show vari_Size.f 29 4 2 = some (((7 : Nat) : Int), true) by kernel_rfl) hg (j0_b _ _ N F T _ _ (by decide))
theorem back_20_1 (N F T b : Int) : yardlaw18_VariBack.f 29 20 1 N F T b = some true := by
  have fb := flagbits (bits .and .i64 F 7) (flag8 F) false
  have hg : getV 20 1 (xC F false :: sp 4 N) = some (sI 4 (le (sp 4 N)), bits .and .i64 (xC F false) 7, 0, true) := by
    unfold getV
    rw [if_pos (range_one (xC F false) (sp 4 N) fb.1 (sp_range 4 _))]
    rw [if_neg (by decide), if_neg (by decide), if_neg (by decide), if_neg (by decide), if_neg (by decide), if_pos (by decide), if_pos (show (xC F false :: sp 4 N).length = 5 from rfl)]
    rfl
  rw [show bits .and .i64 (xC F false) 7 = bits .and .i64 F 7 from fb.2.1, sp4, le_leB] at hg
  exact back_join _ _ N F T b _ _ _ (put_20_1 N F T b) (show vari_Size.f 29 20 1 = some (((5 : Nat) : Int), true) by kernel_rfl) (by rw [sp4]; exact hg) (j0_k _ _ N F T _ _ _ (by decide) (sI4m N).2.2)
theorem back_21_1 (N F T b : Int) : yardlaw18_VariBack.f 29 21 1 N F T b = some true := by
  have fb := flagbits (bits .and .i64 F 7) (flag8 F) false
  have hg : getV 21 1 (xC F false :: sp 4 N) = some (sI 4 (le (sp 4 N)), bits .and .i64 (xC F false) 7, 0, true) := by
    unfold getV
    rw [if_pos (range_one (xC F false) (sp 4 N) fb.1 (sp_range 4 _))]
    rw [if_neg (by decide), if_neg (by decide), if_neg (by decide), if_neg (by decide), if_neg (by decide), if_pos (by decide), if_pos (show (xC F false :: sp 4 N).length = 5 from rfl)]
    rfl
  rw [show bits .and .i64 (xC F false) 7 = bits .and .i64 F 7 from fb.2.1, sp4, le_leB] at hg
  exact back_join _ _ N F T b _ _ _ (put_21_1 N F T b) (show vari_Size.f 29 21 1 = some (((5 : Nat) : Int), true) by kernel_rfl) (by rw [sp4]; exact hg) (j0_k _ _ N F T _ _ _ (by decide) (sI4m N).2.2)
theorem back_22_1 (N F T b : Int) : yardlaw18_VariBack.f 29 22 1 N F T b = some true := by
  have fb := flagbits (bits .and .i64 F 7) (flag8 F) false
  have hg : getV 22 1 (xC F false :: sp 4 N) = some (sI 4 (le (sp 4 N)), bits .and .i64 (xC F false) 7, 0, true) := by
    unfold getV
    rw [if_pos (range_one (xC F false) (sp 4 N) fb.1 (sp_range 4 _))]
    rw [if_neg (by decide), if_neg (by decide), if_neg (by decide), if_neg (by decide), if_neg (by decide), if_pos (by decide), if_pos (show (xC F false :: sp 4 N).length = 5 from rfl)]
    rfl
  rw [show bits .and .i64 (xC F false) 7 = bits .and .i64 F 7 from fb.2.1, sp4, le_leB] at hg
  exact back_join _ _ N F T b _ _ _ (put_22_1 N F T b) (show vari_Size.f 29 22 1 = some (((5 : Nat) : Int), true) by kernel_rfl) (by rw [sp4]; exact hg) (j0_k _ _ N F T _ _ _ (by decide) (sI4m N).2.2)
theorem back_22_5 (N F T b : Int) : yardlaw18_VariBack.f 29 22 5 N F T b = some true := by
  have fb := flagbits (bits .and .i64 F 7) (flag8 F) false
  have hg : getV 22 5 (xC F false :: (sp 4 N ++ sp 6 (tmV T b))) = some (sI 4 (le (sp 4 N)), bits .and .i64 (xC F false) 7, le (sp 6 (tmV T b)), true) := by
    unfold getV
    rw [if_pos (range_two (xC F false) (sp 4 N) (sp 6 (tmV T b)) fb.1 (sp_range 4 _) (sp_range 6 _))]
    rw [if_neg (by decide), if_neg (by decide), if_neg (by decide), if_neg (by decide), if_neg (by decide), if_neg (by decide), if_pos (by decide), if_pos (show (xC F false :: (sp 4 N ++ sp 6 (tmV T b))).length = 11 from rfl)]
    rfl
  rw [show bits .and .i64 (xC F false) 7 = bits .and .i64 F 7 from fb.2.1, sp4, le_leB] at hg
  exact back_join _ _ N F T b _ _ _ (put_22_5 N F T b) (show vari_Size.f 29 22 5 = some (((11 : Nat) : Int), true) by kernel_rfl) (by rw [sp4]; exact hg) (j0_k _ _ N F T _ _ _ (by decide) (sI4m N).2.2)
theorem back_30_1 (N F T b : Int) : yardlaw18_VariBack.f 29 30 1 N F T b = some true := by
  obtain ⟨y, cut, hc⟩ : ∃ y cut, clipV N 2147483647 = (y, cut) := ⟨_, _, rfl⟩
  have hy := clipV_bd N 2147483647 (by decide)
  rw [hc] at hy
  have fb := flagbits (bits .and .i64 F 7) (flag8 F) cut
  have hg : getV 30 1 (xC F cut :: sp 4 y) = some (sI 4 (le (sp 4 y)), bits .and .i64 (xC F cut) 7, 0, true) := by
    unfold getV
    rw [if_pos (range_one (xC F cut) (sp 4 y) fb.1 (sp_range 4 _))]
    rw [if_neg (by decide), if_neg (by decide), if_neg (by decide), if_neg (by decide), if_neg (by decide), if_pos (by decide), if_pos (show (xC F cut :: sp 4 y).length = 5 from rfl)]
    rfl
  have ey : sI 4 (le (sp 4 y)) = y := by rw [sp4, le_leB]; exact sI4 y (by dsimp only at hy; omega)
  rw [show bits .and .i64 (xC F cut) 7 = bits .and .i64 F 7 from fb.2.1, ey] at hg
  exact back_join _ _ N F T b _ _ _ (put_30_1 N F T b y cut hc) (show vari_Size.f 29 30 1 = some (((5 : Nat) : Int), true) by kernel_rfl) hg (j0_c _ _ N F T _ y cut _ (xC F cut) (by decide) (by first | (rw [if_pos rfl]; exact hc) | (rw [if_neg (by decide)]; exact hc)) rfl fb.2.2)
theorem back_40_1 (N F T b : Int) : yardlaw18_VariBack.f 29 40 1 N F T b = some true := by
  obtain ⟨y, cut, hc⟩ : ∃ y cut, clipV N 2147483647 = (y, cut) := ⟨_, _, rfl⟩
  have hy := clipV_bd N 2147483647 (by decide)
  rw [hc] at hy
  have fb := flagbits (bits .and .i64 F 7) (flag8 F) cut
  have hg : getV 40 1 (xC F cut :: sp 4 y) = some (sI 4 (le (sp 4 y)), bits .and .i64 (xC F cut) 7, 0, true) := by
    unfold getV
    rw [if_pos (range_one (xC F cut) (sp 4 y) fb.1 (sp_range 4 _))]
    rw [if_neg (by decide), if_neg (by decide), if_neg (by decide), if_neg (by decide), if_neg (by decide), if_pos (by decide), if_pos (show (xC F cut :: sp 4 y).length = 5 from rfl)]
    rfl
  have ey : sI 4 (le (sp 4 y)) = y := by rw [sp4, le_leB]; exact sI4 y (by dsimp only at hy; omega)
  rw [show bits .and .i64 (xC F cut) 7 = bits .and .i64 F 7 from fb.2.1, ey] at hg
  exact back_join _ _ N F T b _ _ _ (put_40_1 N F T b y cut hc) (show vari_Size.f 29 40 1 = some (((5 : Nat) : Int), true) by kernel_rfl) hg (j0_c _ _ N F T _ y cut _ (xC F cut) (by decide) (by first | (rw [if_pos rfl]; exact hc) | (rw [if_neg (by decide)]; exact hc)) rfl fb.2.2)
theorem back_32_1 (N F T b : Int) : yardlaw18_VariBack.f 29 32 1 N F T b = some true := by
  obtain ⟨y, cut, hc⟩ : ∃ y cut, clipV N 2147483647 = (y, cut) := ⟨_, _, rfl⟩
  have hy := clipV_bd N 2147483647 (by decide)
  rw [hc] at hy
  have fb := flagbits (bits .and .i64 F 7) (flag8 F) cut
  have hg : getV 32 1 (xC F cut :: sp 4 y) = some (sI 4 (le (sp 4 y)), bits .and .i64 (xC F cut) 7, 0, true) := by
    unfold getV
    rw [if_pos (range_one (xC F cut) (sp 4 y) fb.1 (sp_range 4 _))]
    rw [if_neg (by decide), if_neg (by decide), if_neg (by decide), if_neg (by decide), if_neg (by decide), if_pos (by decide), if_pos (show (xC F cut :: sp 4 y).length = 5 from rfl)]
    rfl
  have ey : sI 4 (le (sp 4 y)) = y := by rw [sp4, le_leB]; exact sI4 y (by dsimp only at hy; omega)
  rw [show bits .and .i64 (xC F cut) 7 = bits .and .i64 F 7 from fb.2.1, ey] at hg
  exact back_join _ _ N F T b _ _ _ (put_32_1 N F T b y cut hc) (show vari_Size.f 29 32 1 = some (((5 : Nat) : Int), true) by kernel_rfl) hg (j0_c _ _ N F T _ y cut _ (xC F cut) (by decide) (by first | (rw [if_pos rfl]; exact hc) | (rw [if_neg (by decide)]; exact hc)) rfl fb.2.2)
theorem back_30_2 (N F T b : Int) : yardlaw18_VariBack.f 29 30 2 N F T b = some true := by
  obtain ⟨y, cut, hc⟩ : ∃ y cut, clipV N 32767 = (y, cut) := ⟨_, _, rfl⟩
  have hy := clipV_bd N 32767 (by decide)
  rw [hc] at hy
  have fb := flagbits (bits .and .i64 F 7) (flag8 F) cut
  have hg : getV 30 2 (xC F cut :: sp 2 y) = some (sI 2 (le (sp 2 y)), bits .and .i64 (xC F cut) 7, 0, true) := by
    unfold getV
    rw [if_pos (range_one (xC F cut) (sp 2 y) fb.1 (sp_range 2 _))]
    rw [if_neg (by decide), if_neg (by decide), if_neg (by decide), if_neg (by decide), if_neg (by decide), if_neg (by decide), if_neg (by decide), if_pos (by decide), if_pos (show (xC F cut :: sp 2 y).length = 3 from rfl)]
    rfl
  have ey : sI 2 (le (sp 2 y)) = y := by rw [sp2, le_leB]; exact sI2 y (by dsimp only at hy; omega)
  rw [show bits .and .i64 (xC F cut) 7 = bits .and .i64 F 7 from fb.2.1, ey] at hg
  exact back_join _ _ N F T b _ _ _ (put_30_2 N F T b y cut hc) (show vari_Size.f 29 30 2 = some (((3 : Nat) : Int), true) by kernel_rfl) hg (j0_c _ _ N F T _ y cut _ (xC F cut) (by decide) (by first | (rw [if_pos rfl]; exact hc) | (rw [if_neg (by decide)]; exact hc)) rfl fb.2.2)
theorem back_40_2 (N F T b : Int) : yardlaw18_VariBack.f 29 40 2 N F T b = some true := by
  obtain ⟨y, cut, hc⟩ : ∃ y cut, clipV N 32767 = (y, cut) := ⟨_, _, rfl⟩
  have hy := clipV_bd N 32767 (by decide)
  rw [hc] at hy
  have fb := flagbits (bits .and .i64 F 7) (flag8 F) cut
  have hg : getV 40 2 (xC F cut :: sp 2 y) = some (sI 2 (le (sp 2 y)), bits .and .i64 (xC F cut) 7, 0, true) := by
    unfold getV
    rw [if_pos (range_one (xC F cut) (sp 2 y) fb.1 (sp_range 2 _))]
    rw [if_neg (by decide), if_neg (by decide), if_neg (by decide), if_neg (by decide), if_neg (by decide), if_neg (by decide), if_neg (by decide), if_pos (by decide), if_pos (show (xC F cut :: sp 2 y).length = 3 from rfl)]
    rfl
  have ey : sI 2 (le (sp 2 y)) = y := by rw [sp2, le_leB]; exact sI2 y (by dsimp only at hy; omega)
  rw [show bits .and .i64 (xC F cut) 7 = bits .and .i64 F 7 from fb.2.1, ey] at hg
  exact back_join _ _ N F T b _ _ _ (put_40_2 N F T b y cut hc) (show vari_Size.f 29 40 2 = some (((3 : Nat) : Int), true) by kernel_rfl) hg (j0_c _ _ N F T _ y cut _ (xC F cut) (by decide) (by first | (rw [if_pos rfl]; exact hc) | (rw [if_neg (by decide)]; exact hc)) rfl fb.2.2)
theorem back_32_2 (N F T b : Int) : yardlaw18_VariBack.f 29 32 2 N F T b = some true := by
  obtain ⟨y, cut, hc⟩ : ∃ y cut, clipV N 32767 = (y, cut) := ⟨_, _, rfl⟩
  have hy := clipV_bd N 32767 (by decide)
  rw [hc] at hy
  have fb := flagbits (bits .and .i64 F 7) (flag8 F) cut
  have hg : getV 32 2 (xC F cut :: sp 2 y) = some (sI 2 (le (sp 2 y)), bits .and .i64 (xC F cut) 7, 0, true) := by
    unfold getV
    rw [if_pos (range_one (xC F cut) (sp 2 y) fb.1 (sp_range 2 _))]
    rw [if_neg (by decide), if_neg (by decide), if_neg (by decide), if_neg (by decide), if_neg (by decide), if_neg (by decide), if_neg (by decide), if_pos (by decide), if_pos (show (xC F cut :: sp 2 y).length = 3 from rfl)]
    rfl
  have ey : sI 2 (le (sp 2 y)) = y := by rw [sp2, le_leB]; exact sI2 y (by dsimp only at hy; omega)
  rw [show bits .and .i64 (xC F cut) 7 = bits .and .i64 F 7 from fb.2.1, ey] at hg
  exact back_join _ _ N F T b _ _ _ (put_32_2 N F T b y cut hc) (show vari_Size.f 29 32 2 = some (((3 : Nat) : Int), true) by kernel_rfl) hg (j0_c _ _ N F T _ y cut _ (xC F cut) (by decide) (by first | (rw [if_pos rfl]; exact hc) | (rw [if_neg (by decide)]; exact hc)) rfl fb.2.2)
theorem back_32_3 (N F T b : Int) : yardlaw18_VariBack.f 29 32 3 N F T b = some true := by
  obtain ⟨y, cut, hc⟩ : ∃ y cut, clipV N 2147483647 = (y, cut) := ⟨_, _, rfl⟩
  have hy := clipV_bd N 2147483647 (by decide)
  rw [hc] at hy
  have fb := flagbits (bits .and .i64 F 7) (flag8 F) cut
  have hg : getV 32 3 (xC F cut :: (sp 4 y ++ sp 6 (tmV T b))) = some (sI 4 (le (sp 4 y)), bits .and .i64 (xC F cut) 7, le (sp 6 (tmV T b)), true) := by
    unfold getV
    rw [if_pos (range_two (xC F cut) (sp 4 y) (sp 6 (tmV T b)) fb.1 (sp_range 4 _) (sp_range 6 _))]
    rw [if_neg (by decide), if_neg (by decide), if_neg (by decide), if_neg (by decide), if_neg (by decide), if_neg (by decide), if_pos (by decide), if_pos (show (xC F cut :: (sp 4 y ++ sp 6 (tmV T b))).length = 11 from rfl)]
    rfl
  have ey : sI 4 (le (sp 4 y)) = y := by rw [sp4, le_leB]; exact sI4 y (by dsimp only at hy; omega)
  rw [show bits .and .i64 (xC F cut) 7 = bits .and .i64 F 7 from fb.2.1, ey] at hg
  exact back_join _ _ N F T b _ _ _ (put_32_3 N F T b y cut hc) (show vari_Size.f 29 32 3 = some (((11 : Nat) : Int), true) by kernel_rfl) hg (j0_c _ _ N F T _ y cut _ (xC F cut) (by decide) (by first | (rw [if_pos rfl]; exact hc) | (rw [if_neg (by decide)]; exact hc)) rfl fb.2.2)
set_option maxRecDepth 100000 in
set_option maxHeartbeats 8000000 in
theorem VariBack (g v N F T b : Int) : yardlaw18_VariBack.f 29 g v N F T b = some true := by
  by_cases hk : kindV g = 0
  · obtain ⟨n, kn, hs⟩ := size_is g v
    exact back_none g v N F T b (put_out g v N F T b (.inl hk)) n kn hs (.inl hk)
  have hset := kind_set g hk
  by_cases ho : g < 0 ∨ 255 < g ∨ v < 0 ∨ 99 < v
  · exact back_none g v N F T b (put_out g v N F T b (by omega)) 0 false (size_out g v ho) (.inr rfl)
  have hg : 0 ≤ g ∧ g ≤ 255 := by omega
  have hv : 0 ≤ v ∧ v ≤ 99 := by omega
  have x12 : g ≠ 12 ∧ g ≠ 41 ∧ g ≠ 50 ∧ g ≠ 52 ∧ g ≠ 80 := by omega
  clear ho hset
  by_cases h102 : g = 1 ∧ v = 2
  · rw [h102.1, h102.2]
    exact back_1_2 N F T b
  by_cases h1002 : g = 10 ∧ v = 2
  · rw [h1002.1, h1002.2]
    exact back_10_2 N F T b
  by_cases h201 : g = 2 ∧ v = 1
  · rw [h201.1, h201.2]
    exact back_2_1 N F T b
  by_cases h202 : g = 2 ∧ v = 2
  · rw [h202.1, h202.2]
    exact back_2_2 N F T b
  by_cases h302 : g = 3 ∧ v = 2
  · rw [h302.1, h302.2]
    exact back_3_2 N F T b
  by_cases h401 : g = 4 ∧ v = 1
  · rw [h401.1, h401.2]
    exact back_4_1 N F T b
  by_cases h402 : g = 4 ∧ v = 2
  · rw [h402.1, h402.2]
    exact back_4_2 N F T b
  by_cases h2001 : g = 20 ∧ v = 1
  · rw [h2001.1, h2001.2]
    exact back_20_1 N F T b
  by_cases h2101 : g = 21 ∧ v = 1
  · rw [h2101.1, h2101.2]
    exact back_21_1 N F T b
  by_cases h2201 : g = 22 ∧ v = 1
  · rw [h2201.1, h2201.2]
    exact back_22_1 N F T b
  by_cases h2205 : g = 22 ∧ v = 5
  · rw [h2205.1, h2205.2]
    exact back_22_5 N F T b
  by_cases h3001 : g = 30 ∧ v = 1
  · rw [h3001.1, h3001.2]
    exact back_30_1 N F T b
  by_cases h4001 : g = 40 ∧ v = 1
  · rw [h4001.1, h4001.2]
    exact back_40_1 N F T b
  by_cases h3201 : g = 32 ∧ v = 1
  · rw [h3201.1, h3201.2]
    exact back_32_1 N F T b
  by_cases h3002 : g = 30 ∧ v = 2
  · rw [h3002.1, h3002.2]
    exact back_30_2 N F T b
  by_cases h4002 : g = 40 ∧ v = 2
  · rw [h4002.1, h4002.2]
    exact back_40_2 N F T b
  by_cases h3202 : g = 32 ∧ v = 2
  · rw [h3202.1, h3202.2]
    exact back_32_2 N F T b
  by_cases h3203 : g = 32 ∧ v = 3
  · rw [h3203.1, h3203.2]
    exact back_32_3 N F T b
  exact back_none g v N F T b (put_none g v N F T b hg hv ⟨fun e => h102 (code_of g v 1 2 hv (by decide) e), fun e => h1002 (code_of g v 10 2 hv (by decide) e), fun e => h302 (code_of g v 3 2 hv (by decide) e), fun e => h201 (code_of g v 2 1 hv (by decide) e), fun e => h401 (code_of g v 4 1 hv (by decide) e), fun e => h202 (code_of g v 2 2 hv (by decide) e), fun e => h402 (code_of g v 4 2 hv (by decide) e), fun e => h2001 (code_of g v 20 1 hv (by decide) e), fun e => h2101 (code_of g v 21 1 hv (by decide) e), fun e => h2201 (code_of g v 22 1 hv (by decide) e), fun e => h3001 (code_of g v 30 1 hv (by decide) e), fun e => h4001 (code_of g v 40 1 hv (by decide) e), fun e => h3201 (code_of g v 32 1 hv (by decide) e), fun e => h2205 (code_of g v 22 5 hv (by decide) e), fun e => h3203 (code_of g v 32 3 hv (by decide) e), fun e => h3002 (code_of g v 30 2 hv (by decide) e), fun e => h4002 (code_of g v 40 2 hv (by decide) e), fun e => h3202 (code_of g v 32 2 hv (by decide) e)⟩) 0 false (size_none g v hg hv ⟨fun e => h102 (code_of g v 1 2 hv (by decide) e), fun e => h1002 (code_of g v 10 2 hv (by decide) e), fun e => h302 (code_of g v 3 2 hv (by decide) e), fun e => h201 (code_of g v 2 1 hv (by decide) e), fun e => h401 (code_of g v 4 1 hv (by decide) e), fun e => h202 (code_of g v 2 2 hv (by decide) e), fun e => h402 (code_of g v 4 2 hv (by decide) e), fun e => h2001 (code_of g v 20 1 hv (by decide) e), fun e => h2101 (code_of g v 21 1 hv (by decide) e), fun e => h2201 (code_of g v 22 1 hv (by decide) e), fun e => h3001 (code_of g v 30 1 hv (by decide) e), fun e => h4001 (code_of g v 40 1 hv (by decide) e), fun e => h3201 (code_of g v 32 1 hv (by decide) e), fun e => h2205 (code_of g v 22 5 hv (by decide) e), fun e => h3203 (code_of g v 32 3 hv (by decide) e), fun e => h3002 (code_of g v 30 2 hv (by decide) e), fun e => h4002 (code_of g v 40 2 hv (by decide) e), fun e => h3202 (code_of g v 32 2 hv (by decide) e), fun e => x12.1 (code_of g v 12 1 hv (by decide) e).1, fun e => x12.2.1 (code_of g v 41 1 hv (by decide) e).1, fun e => x12.2.1 (code_of g v 41 2 hv (by decide) e).1, fun e => x12.2.2.1 (code_of g v 50 1 hv (by decide) e).1, fun e => x12.2.2.2.1 (code_of g v 52 2 hv (by decide) e).1, fun e => x12.2.2.2.2 (code_of g v 80 1 hv (by decide) e).1⟩) (.inr rfl)

end Go.Proofs.Ytpchlljelbpanaa.Pure
