/- The pure law VariFlags of chapter 18. -/
import Derived.Test.YtpchlljelbpanaaPV4x0
import Derived.Test.YtpchlljelbpanaaPV4x1
namespace Go.Proofs.Ytpchlljelbpanaa.Pure
open Go.RowKit Go.Proofs.Ytpchlljelbpanaa.PVariTables Go.Proofs.Ytpchlljelbpanaa.PV4 Go.Proofs.YtpchlljelbpanaaW.PrintWords Go.Proofs.YtpchlljelbpanaaW.PrintLast Go.Proofs.YtpchlljelbpanaaW.PrintMore

theorem wf_range {a : Int} (h : (Lit.int .i64 a).wf = true) : -9223372036854775808 ≤ a ∧ a ≤ 9223372036854775807 := by
  simp [Lit.wf, IntKind.min, IntKind.max, IntKind.bits, IntKind.signed] at h
  omega
theorem w64 {x : Int} (h0 : -9223372036854775808 ≤ x) (h1 : x ≤ 9223372036854775807) : wrap64 x = x := by
  unfold wrap64; omega
theorem u64_w (x : Int) : IntKind.u64.wrap x = x % 18446744073709551616 := by simp [IntKind.wrap, IntKind.bits, IntKind.signed]
theorem u16_w (x : Int) : IntKind.u16.wrap x = x % 65536 := by simp [IntKind.wrap, IntKind.bits, IntKind.signed]
theorem i16_w (x : Int) : IntKind.i16.wrap x = (x + 32768) % 65536 - 32768 := by
  simp [IntKind.wrap, IntKind.bits, IntKind.signed]
  split <;> omega
theorem i64_w' (x : Int) : IntKind.i64.wrap x = wrap64 x := by
  simp [IntKind.wrap, IntKind.bits, IntKind.signed, wrap64]
  split <;> omega
theorem p2 (b : Nat) (hb : b ≤ 61) : 1 ≤ (2 : Int) ^ b ∧ (2 : Int) ^ b ≤ 2305843009213693952 := by
  have hN : (2 : Nat) ^ b ≤ 2 ^ 61 := Nat.pow_le_pow_right (by decide) hb
  have hP : 1 ≤ (2 : Nat) ^ b := Nat.one_le_two_pow
  have e : (2 : Int) ^ b = ((2 ^ b : Nat) : Int) := by simp
  rw [e]
  generalize (2 : Nat) ^ b = m at hN hP
  omega
/-- A shift of 1 by a count within 61. -/
theorem shl1 (n : Int) (h0 : 0 ≤ n) (h1 : n ≤ 61) : shl .i64 1 n = 2 ^ n.toNat ∧ 1 ≤ shl .i64 1 n ∧ shl .i64 1 n ≤ 2305843009213693952 := by
  have hp := p2 n.toNat (by omega)
  have e : shl .i64 1 n = 2 ^ n.toNat := by
    unfold shl
    have : min n.toNat IntKind.i64.bits = n.toNat := by simp [IntKind.bits]; omega
    rw [this, Int.one_mul, i64_w', w64 (by omega) (by omega)]
  rw [e]; exact ⟨rfl, hp.1, hp.2⟩
/-- What Clip answers. -/
def clipV (n h : Int) : Int × Bool := if n > h then (h, true) else if n < -h - 1 then (-h - 1, true) else (n, false)
theorem clip_bad (k : Nat) (n b : Int) (h : b < 1 ∨ 62 < b) : scale_Clip.f (k + 1) n b = some (0, true) := by
  unfold scale_Clip.f
  by_cases c : b < 1
  · rw [if_pos c]; simp only [scale_Clip.j0, if_true]
  · have : decide (b > 62) = true := decide_eq_true (by omega)
    rw [if_neg c, this]; simp only [scale_Clip.j0, if_true]
theorem clip_good (k : Nat) (n b : Int) (h0 : 1 ≤ b) (h1 : b ≤ 62) : scale_Clip.f (k + 1) n b = some (clipV n (shl .i64 1 (b - 1) - 1)) := by
  obtain ⟨_, l, u⟩ := shl1 (b - 1) (by omega) (by omega)
  have e1 : wrap64 (b - 1) = b - 1 := w64 (by omega) (by omega)
  have e2 : wrap64 (shl .i64 1 (b - 1) - 1) = shl .i64 1 (b - 1) - 1 := w64 (by omega) (by omega)
  have e3 : wrap64 (-(shl .i64 1 (b - 1) - 1)) = -(shl .i64 1 (b - 1) - 1) := w64 (by omega) (by omega)
  have e4 : wrap64 (-(shl .i64 1 (b - 1) - 1) - 1) = -(shl .i64 1 (b - 1) - 1) - 1 := w64 (by omega) (by omega)
  have d : decide (b > 62) = false := decide_eq_false (by omega)
  unfold scale_Clip.f
  rw [if_neg (by omega), d]
  simp only [scale_Clip.j0]
  rw [if_neg (by decide), e1, e2, e3, e4, if_pos (by omega)]
  unfold clipV
  split
  · rfl
  · split <;> rfl
theorem shl31 : shl .i64 1 (32 - 1) - 1 = 2147483647 := by decide +kernel
theorem clip32 (k : Nat) (n : Int) : scale_Clip.f (k + 1) n 32 = some (clipV n 2147483647) := by
  rw [clip_good k n 32 (by decide) (by decide), show shl .i64 1 (32 - 1) - 1 = 2147483647 by decide +kernel]
theorem clip16 (k : Nat) (n : Int) : scale_Clip.f (k + 1) n 16 = some (clipV n 32767) := by
  rw [clip_good k n 16 (by decide) (by decide), show shl .i64 1 (16 - 1) - 1 = 32767 by decide +kernel]
def kindV (g : Int) : Int := if g = 1 ∨ g = 2 then 1 else if g = 3 ∨ g = 4 then 2 else if g = 10 then 6 else if g = 20 ∨ g = 22 then 4 else if g = 21 then 5 else if g = 30 ∨ g = 32 then 3 else if g = 40 then 7 else 0
theorem kind_set (g : Int) (h : kindV g ≠ 0) : g = 1 ∨ g = 2 ∨ g = 3 ∨ g = 4 ∨ g = 10 ∨ g = 20 ∨ g = 21 ∨ g = 22 ∨ g = 30 ∨ g = 32 ∨ g = 40 := by
  unfold kindV at h
  omega
theorem kind_ok (k : Nat) (g : Int) : vari_Kind.f (k + 5) g = some (kindV g) := by
  by_cases h : kindV g = 0
  · have hn : g ≠ 1 ∧ g ≠ 2 ∧ g ≠ 3 ∧ g ≠ 4 ∧ g ≠ 10 ∧ g ≠ 20 ∧ g ≠ 21 ∧ g ≠ 22 ∧ g ≠ 30 ∧ g ≠ 32 ∧ g ≠ 40 := by
      refine ⟨?_, ?_, ?_, ?_, ?_, ?_, ?_, ?_, ?_, ?_, ?_⟩ <;> (rintro rfl; revert h; decide)
    obtain ⟨h1, h2, h3, h4, h5, h6, h7, h8, h9, h10, h11⟩ := hn
    rw [h]
    simp [vari_Kind.f, vari_Kind.j0, vari_Kind.j1, vari_Kind.j2, vari_Kind.j3, h1, h2, h3, h4, h5, h6, h7, h8, h9, h10, h11]
  · rcases kind_set g h with rfl | rfl | rfl | rfl | rfl | rfl | rfl | rfl | rfl | rfl | rfl <;> rfl
theorem shape_none (k : Nat) (g v : Int) (hg : 0 ≤ g ∧ g ≤ 255) (hv : 0 ≤ v ∧ v ≤ 99) (h : 100 * g + v ≠ 102 ∧ 100 * g + v ≠ 1002 ∧ 100 * g + v ≠ 302 ∧ 100 * g + v ≠ 201 ∧ 100 * g + v ≠ 401 ∧ 100 * g + v ≠ 202 ∧ 100 * g + v ≠ 402 ∧ 100 * g + v ≠ 2001 ∧ 100 * g + v ≠ 2101 ∧ 100 * g + v ≠ 2201 ∧ 100 * g + v ≠ 3001 ∧ 100 * g + v ≠ 4001 ∧ 100 * g + v ≠ 3201 ∧ 100 * g + v ≠ 2205 ∧ 100 * g + v ≠ 3203 ∧ 100 * g + v ≠ 3002 ∧ 100 * g + v ≠ 4002 ∧ 100 * g + v ≠ 3202) : vari_shape.f (k + 5) g v = some (0, false, false) := by
  have e : wrap64 (wrap64 (100 * g) + v) = 100 * g + v := by rw [w64 (x := 100 * g) (by omega) (by omega), w64 (by omega) (by omega)]
  obtain ⟨n0, n1, n2, n3, n4, n5, n6, n7, n8, n9, n10, n11, n12, n13, n14, n15, n16, n17⟩ := h
  unfold vari_shape.f
  rw [e]
  generalize 100 * g + v = c at *
  simp [vari_shape.j0, vari_shape.j1, vari_shape.j2, vari_shape.j3, n0, n1, n2, n3, n4, n5, n6, n7, n8, n9, n10, n11, n12, n13, n14, n15, n16, n17]
theorem size_out (g v : Int) (h : g < 0 ∨ 255 < g ∨ v < 0 ∨ 99 < v) : vari_Size.f 29 g v = some (0, false) := by
  unfold vari_Size.f
  by_cases h1 : g < 0
  · rw [if_pos h1]; rfl
  · rw [if_neg h1]
    by_cases h2 : g > 255
    · rw [if_pos h2]; rfl
    · rw [if_neg h2]
      by_cases h3 : v < 0
      · rw [if_pos h3]; rfl
      · rw [if_neg h3, decide_eq_true (by omega : v > 99)]; rfl
theorem put_out (g v a b c d : Int) (h : kindV g = 0 ∨ v < 0 ∨ 99 < v) : vari_Put.f 29 g v a b c d = some ([], false) := by
  unfold vari_Put.f vari_shaped.f
  rw [kind_ok 24]
  simp only [Option.bind_some]
  by_cases h1 : kindV g = 0
  · rw [if_pos h1]; rfl
  · rw [if_neg h1]
    by_cases h2 : v < 0
    · rw [if_pos h2]; rfl
    · rw [if_neg h2, if_pos (by omega)]; rfl
theorem put_none (g v a b c d : Int) (hg : 0 ≤ g ∧ g ≤ 255) (hv : 0 ≤ v ∧ v ≤ 99) (h : 100 * g + v ≠ 102 ∧ 100 * g + v ≠ 1002 ∧ 100 * g + v ≠ 302 ∧ 100 * g + v ≠ 201 ∧ 100 * g + v ≠ 401 ∧ 100 * g + v ≠ 202 ∧ 100 * g + v ≠ 402 ∧ 100 * g + v ≠ 2001 ∧ 100 * g + v ≠ 2101 ∧ 100 * g + v ≠ 2201 ∧ 100 * g + v ≠ 3001 ∧ 100 * g + v ≠ 4001 ∧ 100 * g + v ≠ 3201 ∧ 100 * g + v ≠ 2205 ∧ 100 * g + v ≠ 3203 ∧ 100 * g + v ≠ 3002 ∧ 100 * g + v ≠ 4002 ∧ 100 * g + v ≠ 3202) : vari_Put.f 29 g v a b c d = some ([], false) := by
  have hs := shape_none 24 g v hg hv h
  unfold vari_Put.f vari_shaped.f
  rw [kind_ok 24]
  simp only [Option.bind_some]
  by_cases h1 : kindV g = 0
  · rw [if_pos h1]; rfl
  · rw [if_neg h1, if_neg (by omega), if_neg (by omega), hs]; rfl
open Go.Proofs.Ytpchlljelbpanaa.Vari (getV sI)
open Go.Proofs.Ytpchlljelbpanaa.Num (le leB leB_range leB_length)
/-- A number's bytes, as Put takes them. -/
def sp (n : Nat) (v : Int) : List Int := (List.range n).map fun (i : Nat) => shr .i64 v (8 * (i : Int)) % 256
def xA (N F : Int) : Int := bits .or .i64 (bits .and .i64 F 7) (wrap64 (bits .and .i64 N 1 * 128)) % 256
def xB (N F : Int) : Int := bits .or .i64 (bits .and .i64 F 7) (wrap64 (bits .and .i64 N 3 * 64)) % 256
def xC (F : Int) (c : Bool) : Int := (if c then bits .or .i64 (bits .and .i64 F 7) 32 else bits .and .i64 F 7) % 256
def tmV (T b : Int) : Int := wrap64 (bits .and .i64 (mx b 0) 281474976710655 + bits .and .i64 (mx T 0) 281474976710655)
theorem shr_at (v : Int) (i : Nat) (h : i ≤ 7) : shr .i64 v (8 * i) = v / 256 ^ i := by
  have e : min (8 * (i : Int)).toNat IntKind.i64.bits = 8 * i := by
    have : IntKind.i64.bits = 64 := rfl
    omega
  unfold shr
  rw [e, Int.pow_mul]
  rfl
theorem sp2 (v : Int) : sp 2 v = leB 2 v := by
  show [shr .i64 v (8 * (0 : Nat)) % 256, shr .i64 v (8 * (1 : Nat)) % 256] = [v % 256, v / 256 % 256]
  rw [shr_at v 0 (by decide), shr_at v 1 (by decide)]
  simp only [List.cons.injEq, and_true]
  refine ⟨?_, ?_⟩ <;> omega
theorem sp4 (v : Int) : sp 4 v = leB 4 v := by
  show [shr .i64 v (8 * (0 : Nat)) % 256, shr .i64 v (8 * (1 : Nat)) % 256, shr .i64 v (8 * (2 : Nat)) % 256, shr .i64 v (8 * (3 : Nat)) % 256] = [v % 256, v / 256 % 256, v / 256 / 256 % 256, v / 256 / 256 / 256 % 256]
  rw [shr_at v 0 (by decide), shr_at v 1 (by decide), shr_at v 2 (by decide), shr_at v 3 (by decide)]
  simp only [List.cons.injEq, and_true]
  refine ⟨?_, ?_, ?_, ?_⟩ <;> omega
theorem put_1_2 (N F T b : Int) : vari_Put.f 29 1 2 N F T b = some ([xA N F], true) := by kernel_rfl
theorem put_10_2 (N F T b : Int) : vari_Put.f 29 10 2 N F T b = some ([xA N F], true) := by kernel_rfl
theorem put_2_1 (N F T b : Int) : vari_Put.f 29 2 1 N F T b = some ([xA N F], true) := by kernel_rfl
theorem put_3_2 (N F T b : Int) : vari_Put.f 29 3 2 N F T b = some ([xB N F], true) := by kernel_rfl
theorem put_4_1 (N F T b : Int) : vari_Put.f 29 4 1 N F T b = some ([xB N F], true) := by kernel_rfl
theorem put_2_2 (N F T b : Int) : vari_Put.f 29 2 2 N F T b = some (xA N F :: sp 6 (tmV T b), true) := by kernel_rfl
theorem put_4_2 (N F T b : Int) : vari_Put.f 29 4 2 N F T b = some (xB N F :: sp 6 (tmV T b), true) := by kernel_rfl
theorem put_20_1 (N F T b : Int) : vari_Put.f 29 20 1 N F T b = some (xC F false :: sp 4 N, true) := by kernel_rfl
theorem put_21_1 (N F T b : Int) : vari_Put.f 29 21 1 N F T b = some (xC F false :: sp 4 N, true) := by kernel_rfl
theorem put_22_1 (N F T b : Int) : vari_Put.f 29 22 1 N F T b = some (xC F false :: sp 4 N, true) := by kernel_rfl
theorem put_22_5 (N F T b : Int) : vari_Put.f 29 22 5 N F T b = some (xC F false :: (sp 4 N ++ sp 6 (tmV T b)), true) := by kernel_rfl
theorem put_30_1 (N F T b y : Int) (cut : Bool) (hc : clipV N 2147483647 = (y, cut)) : vari_Put.f 29 30 1 N F T b = some (xC F cut :: sp 4 y, true) := by
  have e : vari_Put.f 29 30 1 N F T b = (scale_Clip.f 27 N 32).bind fun bt => if bt.2 = true then vari_Put.j2 27 b 4 false (bits .or .i64 (bits .and .i64 F 7) 32) bt.1 N F T else vari_Put.j2 27 b 4 false (bits .and .i64 F 7) bt.1 N F T := by kernel_rfl
  rw [e, clip32 26, hc]
  cases cut
  · exact (show vari_Put.j2 27 b 4 false (bits .and .i64 F 7) y N F T = some (xC F false :: sp 4 y, true) by kernel_rfl)
  · exact (show vari_Put.j2 27 b 4 false (bits .or .i64 (bits .and .i64 F 7) 32) y N F T = some (xC F true :: sp 4 y, true) by kernel_rfl)
theorem put_40_1 (N F T b y : Int) (cut : Bool) (hc : clipV N 2147483647 = (y, cut)) : vari_Put.f 29 40 1 N F T b = some (xC F cut :: sp 4 y, true) := by
  have e : vari_Put.f 29 40 1 N F T b = (scale_Clip.f 27 N 32).bind fun bt => if bt.2 = true then vari_Put.j2 27 b 4 false (bits .or .i64 (bits .and .i64 F 7) 32) bt.1 N F T else vari_Put.j2 27 b 4 false (bits .and .i64 F 7) bt.1 N F T := by kernel_rfl
  rw [e, clip32 26, hc]
  cases cut
  · exact (show vari_Put.j2 27 b 4 false (bits .and .i64 F 7) y N F T = some (xC F false :: sp 4 y, true) by kernel_rfl)
  · exact (show vari_Put.j2 27 b 4 false (bits .or .i64 (bits .and .i64 F 7) 32) y N F T = some (xC F true :: sp 4 y, true) by kernel_rfl)
theorem put_32_1 (N F T b y : Int) (cut : Bool) (hc : clipV N 2147483647 = (y, cut)) : vari_Put.f 29 32 1 N F T b = some (xC F cut :: sp 4 y, true) := by
  have e : vari_Put.f 29 32 1 N F T b = (scale_Clip.f 27 N 32).bind fun bt => if bt.2 = true then vari_Put.j2 27 b 4 false (bits .or .i64 (bits .and .i64 F 7) 32) bt.1 N F T else vari_Put.j2 27 b 4 false (bits .and .i64 F 7) bt.1 N F T := by kernel_rfl
  rw [e, clip32 26, hc]
  cases cut
  · exact (show vari_Put.j2 27 b 4 false (bits .and .i64 F 7) y N F T = some (xC F false :: sp 4 y, true) by kernel_rfl)
  · exact (show vari_Put.j2 27 b 4 false (bits .or .i64 (bits .and .i64 F 7) 32) y N F T = some (xC F true :: sp 4 y, true) by kernel_rfl)
theorem put_30_2 (N F T b y : Int) (cut : Bool) (hc : clipV N 32767 = (y, cut)) : vari_Put.f 29 30 2 N F T b = some (xC F cut :: sp 2 y, true) := by
  have e : vari_Put.f 29 30 2 N F T b = (scale_Clip.f 27 N 16).bind fun bt => if bt.2 = true then vari_Put.j2 27 b 2 false (bits .or .i64 (bits .and .i64 F 7) 32) bt.1 N F T else vari_Put.j2 27 b 2 false (bits .and .i64 F 7) bt.1 N F T := by kernel_rfl
  rw [e, clip16 26, hc]
  cases cut
  · exact (show vari_Put.j2 27 b 2 false (bits .and .i64 F 7) y N F T = some (xC F false :: sp 2 y, true) by kernel_rfl)
  · exact (show vari_Put.j2 27 b 2 false (bits .or .i64 (bits .and .i64 F 7) 32) y N F T = some (xC F true :: sp 2 y, true) by kernel_rfl)
theorem put_40_2 (N F T b y : Int) (cut : Bool) (hc : clipV N 32767 = (y, cut)) : vari_Put.f 29 40 2 N F T b = some (xC F cut :: sp 2 y, true) := by
  have e : vari_Put.f 29 40 2 N F T b = (scale_Clip.f 27 N 16).bind fun bt => if bt.2 = true then vari_Put.j2 27 b 2 false (bits .or .i64 (bits .and .i64 F 7) 32) bt.1 N F T else vari_Put.j2 27 b 2 false (bits .and .i64 F 7) bt.1 N F T := by kernel_rfl
  rw [e, clip16 26, hc]
  cases cut
  · exact (show vari_Put.j2 27 b 2 false (bits .and .i64 F 7) y N F T = some (xC F false :: sp 2 y, true) by kernel_rfl)
  · exact (show vari_Put.j2 27 b 2 false (bits .or .i64 (bits .and .i64 F 7) 32) y N F T = some (xC F true :: sp 2 y, true) by kernel_rfl)
theorem put_32_2 (N F T b y : Int) (cut : Bool) (hc : clipV N 32767 = (y, cut)) : vari_Put.f 29 32 2 N F T b = some (xC F cut :: sp 2 y, true) := by
  have e : vari_Put.f 29 32 2 N F T b = (scale_Clip.f 27 N 16).bind fun bt => if bt.2 = true then vari_Put.j2 27 b 2 false (bits .or .i64 (bits .and .i64 F 7) 32) bt.1 N F T else vari_Put.j2 27 b 2 false (bits .and .i64 F 7) bt.1 N F T := by kernel_rfl
  rw [e, clip16 26, hc]
  cases cut
  · exact (show vari_Put.j2 27 b 2 false (bits .and .i64 F 7) y N F T = some (xC F false :: sp 2 y, true) by kernel_rfl)
  · exact (show vari_Put.j2 27 b 2 false (bits .or .i64 (bits .and .i64 F 7) 32) y N F T = some (xC F true :: sp 2 y, true) by kernel_rfl)
theorem put_32_3 (N F T b y : Int) (cut : Bool) (hc : clipV N 2147483647 = (y, cut)) : vari_Put.f 29 32 3 N F T b = some (xC F cut :: (sp 4 y ++ sp 6 (tmV T b)), true) := by
  have e : vari_Put.f 29 32 3 N F T b = (scale_Clip.f 27 N 32).bind fun bt => if bt.2 = true then vari_Put.j2 27 b 4 true (bits .or .i64 (bits .and .i64 F 7) 32) bt.1 N F T else vari_Put.j2 27 b 4 true (bits .and .i64 F 7) bt.1 N F T := by kernel_rfl
  rw [e, clip32 26, hc]
  cases cut
  · exact (show vari_Put.j2 27 b 4 true (bits .and .i64 F 7) y N F T = some (xC F false :: (sp 4 y ++ sp 6 (tmV T b)), true) by kernel_rfl)
  · exact (show vari_Put.j2 27 b 4 true (bits .or .i64 (bits .and .i64 F 7) 32) y N F T = some (xC F true :: (sp 4 y ++ sp 6 (tmV T b)), true) by kernel_rfl)
theorem ofInt_wrap (x : Int) : BitVec.ofInt 64 (IntKind.i64.wrap x) = BitVec.ofInt 64 x := by
  apply BitVec.eq_of_toNat_eq
  rw [BitVec.toNat_ofInt, BitVec.toNat_ofInt]
  congr 1
  rw [IntKind.wrap_i64]
  omega
theorem ofInt_nat (z : BitVec 64) : BitVec.ofInt 64 (z.toNat : Int) = z := by
  rw [BitVec.ofInt_natCast, BitVec.ofNat_toNat, BitVec.setWidth_eq]
theorem mask_same (x y m : Int) : bits .and .i64 (bits .or .i64 (bits .and .i64 x m) (bits .andNot .i64 y m)) m = bits .and .i64 x m := by
  have e : (((BitVec.ofInt 64 x &&& BitVec.ofInt 64 m) ||| (BitVec.ofInt 64 y &&& ~~~ BitVec.ofInt 64 m)) &&& BitVec.ofInt 64 m) = BitVec.ofInt 64 x &&& BitVec.ofInt 64 m := by
    generalize BitVec.ofInt 64 x = a
    generalize BitVec.ofInt 64 y = b
    generalize BitVec.ofInt 64 m = c
    apply BitVec.eq_of_getElem_eq
    intro i hi
    simp only [BitVec.getElem_and, BitVec.getElem_or, BitVec.getElem_not]
    cases a[i] <;> cases b[i] <;> cases c[i] <;> rfl
  show IntKind.i64.wrap (((BitVec.ofInt 64 (IntKind.i64.wrap ((BitVec.ofInt 64 (IntKind.i64.wrap ((BitVec.ofInt 64 x &&& BitVec.ofInt 64 m).toNat : Int)) ||| BitVec.ofInt 64 (IntKind.i64.wrap ((BitVec.ofInt 64 y &&& ~~~ BitVec.ofInt 64 m).toNat : Int))).toNat : Int)) &&& BitVec.ofInt 64 m).toNat : Nat) : Int) = IntKind.i64.wrap (((BitVec.ofInt 64 x &&& BitVec.ofInt 64 m).toNat : Nat) : Int)
  rw [ofInt_wrap, ofInt_wrap, ofInt_wrap, ofInt_nat, ofInt_nat, ofInt_nat, e]
theorem code_of (g v a b : Int) (hv : 0 ≤ v ∧ v ≤ 99) (hb : 0 ≤ b ∧ b ≤ 99) (e : 100 * g + v = 100 * a + b) : g = a ∧ v = b := by omega
set_option maxHeartbeats 4000000 in
theorem put_some (g v N F T b : Int) : ∃ L ok, vari_Put.f 29 g v N F T b = some (L, ok) := by
  by_cases ho : g < 0 ∨ 255 < g ∨ v < 0 ∨ 99 < v
  · by_cases hk : kindV g = 0
    · exact ⟨_, _, put_out g v N F T b (.inl hk)⟩
    · have := kind_set g hk
      exact ⟨_, _, put_out g v N F T b (by omega)⟩
  have hg : 0 ≤ g ∧ g ≤ 255 := by omega
  have hv : 0 ≤ v ∧ v ≤ 99 := by omega
  clear ho
  by_cases h102 : g = 1 ∧ v = 2
  · obtain ⟨rfl, rfl⟩ := h102
    exact ⟨_, _, put_1_2 N F T b⟩
  by_cases h1002 : g = 10 ∧ v = 2
  · obtain ⟨rfl, rfl⟩ := h1002
    exact ⟨_, _, put_10_2 N F T b⟩
  by_cases h302 : g = 3 ∧ v = 2
  · obtain ⟨rfl, rfl⟩ := h302
    exact ⟨_, _, put_3_2 N F T b⟩
  by_cases h201 : g = 2 ∧ v = 1
  · obtain ⟨rfl, rfl⟩ := h201
    exact ⟨_, _, put_2_1 N F T b⟩
  by_cases h401 : g = 4 ∧ v = 1
  · obtain ⟨rfl, rfl⟩ := h401
    exact ⟨_, _, put_4_1 N F T b⟩
  by_cases h202 : g = 2 ∧ v = 2
  · obtain ⟨rfl, rfl⟩ := h202
    exact ⟨_, _, put_2_2 N F T b⟩
  by_cases h402 : g = 4 ∧ v = 2
  · obtain ⟨rfl, rfl⟩ := h402
    exact ⟨_, _, put_4_2 N F T b⟩
  by_cases h2001 : g = 20 ∧ v = 1
  · obtain ⟨rfl, rfl⟩ := h2001
    exact ⟨_, _, put_20_1 N F T b⟩
  by_cases h2101 : g = 21 ∧ v = 1
  · obtain ⟨rfl, rfl⟩ := h2101
    exact ⟨_, _, put_21_1 N F T b⟩
  by_cases h2201 : g = 22 ∧ v = 1
  · obtain ⟨rfl, rfl⟩ := h2201
    exact ⟨_, _, put_22_1 N F T b⟩
  by_cases h3001 : g = 30 ∧ v = 1
  · obtain ⟨rfl, rfl⟩ := h3001
    exact ⟨_, _, put_30_1 N F T b _ _ rfl⟩
  by_cases h4001 : g = 40 ∧ v = 1
  · obtain ⟨rfl, rfl⟩ := h4001
    exact ⟨_, _, put_40_1 N F T b _ _ rfl⟩
  by_cases h3201 : g = 32 ∧ v = 1
  · obtain ⟨rfl, rfl⟩ := h3201
    exact ⟨_, _, put_32_1 N F T b _ _ rfl⟩
  by_cases h2205 : g = 22 ∧ v = 5
  · obtain ⟨rfl, rfl⟩ := h2205
    exact ⟨_, _, put_22_5 N F T b⟩
  by_cases h3203 : g = 32 ∧ v = 3
  · obtain ⟨rfl, rfl⟩ := h3203
    exact ⟨_, _, put_32_3 N F T b _ _ rfl⟩
  by_cases h3002 : g = 30 ∧ v = 2
  · obtain ⟨rfl, rfl⟩ := h3002
    exact ⟨_, _, put_30_2 N F T b _ _ rfl⟩
  by_cases h4002 : g = 40 ∧ v = 2
  · obtain ⟨rfl, rfl⟩ := h4002
    exact ⟨_, _, put_40_2 N F T b _ _ rfl⟩
  by_cases h3202 : g = 32 ∧ v = 2
  · obtain ⟨rfl, rfl⟩ := h3202
    exact ⟨_, _, put_32_2 N F T b _ _ rfl⟩
  exact ⟨_, _, put_none g v N F T b hg hv ⟨fun e => h102 (code_of g v 1 2 hv (by decide) e), fun e => h1002 (code_of g v 10 2 hv (by decide) e), fun e => h302 (code_of g v 3 2 hv (by decide) e), fun e => h201 (code_of g v 2 1 hv (by decide) e), fun e => h401 (code_of g v 4 1 hv (by decide) e), fun e => h202 (code_of g v 2 2 hv (by decide) e), fun e => h402 (code_of g v 4 2 hv (by decide) e), fun e => h2001 (code_of g v 20 1 hv (by decide) e), fun e => h2101 (code_of g v 21 1 hv (by decide) e), fun e => h2201 (code_of g v 22 1 hv (by decide) e), fun e => h3001 (code_of g v 30 1 hv (by decide) e), fun e => h4001 (code_of g v 40 1 hv (by decide) e), fun e => h3201 (code_of g v 32 1 hv (by decide) e), fun e => h2205 (code_of g v 22 5 hv (by decide) e), fun e => h3203 (code_of g v 32 3 hv (by decide) e), fun e => h3002 (code_of g v 30 2 hv (by decide) e), fun e => h4002 (code_of g v 40 2 hv (by decide) e), fun e => h3202 (code_of g v 32 2 hv (by decide) e)⟩⟩
theorem put_flags (k : Nat) (g v N F F' T b : Int) (h : bits .and .i64 F' 7 = bits .and .i64 F 7) : vari_Put.f (k + 3) g v N F' T b = vari_Put.f (k + 3) g v N F T b := by
  unfold vari_Put.f
  simp only [vari_Put.j0, vari_Put.j1, vari_Put.j2, h]
theorem put_one (g v N N' F T b : Int) (hk : kindV g = 1 ∨ kindV g = 6) (h : bits .and .i64 N' 1 = bits .and .i64 N 1) : vari_Put.f 29 g v N' F T b = vari_Put.f 29 g v N F T b := by
  unfold vari_Put.f
  rw [kind_ok 24]
  rcases hk with hk | hk
  · simp [hk, vari_Put.j0, h]
  · simp [hk, vari_Put.j0, h]
theorem put_two (g v N N' F T b : Int) (hk : kindV g = 2) (h : bits .and .i64 N' 3 = bits .and .i64 N 3) : vari_Put.f 29 g v N' F T b = vari_Put.f 29 g v N F T b := by
  unfold vari_Put.f
  rw [kind_ok 24]
  simp [hk, vari_Put.j0, h]
theorem bytes_same (l : List Int) : yardref_Bytes.f l l = some true := by
  unfold yardref_Bytes.f
  rw [beq_self_eq_true]
theorem flags_j1 (g v b : Int) (L : List Int) (ok : Bool) (N' F T : Int) (h : vari_Put.f 29 g v N' F T b = some (L, ok)) : yardlaw18_VariFlags.j1 30 g v b L ok L ok N' F T = some true := by
  show yardlaw18_VariFlags.j1 (29 + 1) g v b L ok L ok N' F T = some true
  rw [yardlaw18_VariFlags.j1, h]
  simp only [Option.bind_some, yardlaw18_first.f, if_true, beq_self_eq_true, bytes_same]
theorem VariFlags (g v N F T more b : Int) : yardlaw18_VariFlags.f 31 g v N F T more b = some true := by
  obtain ⟨L, ok, h⟩ := put_some g v N F T b
  have h31 : vari_Put.f 31 g v N F T b = some (L, ok) := at_rounds (fun k => vari_Put.mono g v N F T b k) (by decide : 29 ≤ 31) h
  have hf : vari_Put.f 31 g v N (bits .or .i64 (bits .and .i64 F 7) (bits .andNot .i64 more 7)) T b = some (L, ok) := (put_flags 28 g v N F _ T b (mask_same F more 7)).trans h31
  unfold yardlaw18_VariFlags.f
  simp only [yardlaw18_first.f, Option.bind_some, if_true, h31, hf]
  rw [kind_ok 26]
  simp only [Option.bind_some]
  have go : ∀ fl : Bool, (fl = true → kindV g = 1 ∨ kindV g = 6) → yardlaw18_VariFlags.j0 (30 + 1) g v more b L ok L ok (kindV g) fl N F T N F T = some true := by
    intro fl hfl
    rw [yardlaw18_VariFlags.j0]
    cases fl
    · rw [if_neg (by decide)]
      by_cases k2 : kindV g = 2
      · rw [if_pos k2]
        exact flags_j1 g v b L ok _ F T ((put_two g v N _ F T b k2 (mask_same N more 3)).trans h)
      · rw [if_neg k2]
        exact flags_j1 g v b L ok _ F T h
    · rw [if_pos rfl]
      exact flags_j1 g v b L ok _ F T ((put_one g v N _ F T b (hfl rfl) (mask_same N more 1)).trans h)
  by_cases k1 : kindV g = 1
  · rw [if_pos k1]
    exact go _ fun _ => .inl k1
  · rw [if_neg k1]
    exact go _ fun h => .inr (by simpa using h)

end Go.Proofs.Ytpchlljelbpanaa.Pure
