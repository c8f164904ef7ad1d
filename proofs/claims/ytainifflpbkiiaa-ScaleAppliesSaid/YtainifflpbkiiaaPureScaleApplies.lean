/- The law: Apply is as the document has it. -/
import Derived.Test.YtainifflpbkiiaaPScaleAppliesx3
namespace Go.Proofs.Ytainifflpbkiiaa.Pure
open Go.RowKit Go.Proofs.Ytainifflpbkiiaa.PScaleApplies Go.Proofs.YtainifflpbkiiaaW.PrintWords Go.Proofs.YtainifflpbkiiaaW.PrintLast Go.Proofs.YtainifflpbkiiaaW.PrintMore

theorem wf_range {a : Int} (h : (Lit.int .i64 a).wf = true) : -9223372036854775808 ≤ a ∧ a ≤ 9223372036854775807 := by
  simp [Lit.wf, IntKind.min, IntKind.max, IntKind.bits, IntKind.signed] at h
  omega
theorem w64 {x : Int} (h0 : -9223372036854775808 ≤ x) (h1 : x ≤ 9223372036854775807) : wrap64 x = x := by
  unfold wrap64; omega
theorem u64_w (x : Int) : IntKind.u64.wrap x = x % 18446744073709551616 := by simp [IntKind.wrap, IntKind.bits, IntKind.signed]
theorem u16_w (x : Int) : IntKind.u16.wrap x = x % 65536 := by simp [IntKind.wrap, IntKind.bits, IntKind.signed]
theorem i16_w (x : Int) : IntKind.i16.wrap x = (x + 32768) % 65536 - 32768 := by
  simp [IntKind.wrap, IntKind.bits, IntKind.signed]
  split <;> omega
theorem i64_w' (x : Int) : IntKind.i64.wrap x = wrap64 x := by
  simp [IntKind.wrap, IntKind.bits, IntKind.signed, wrap64]
  split <;> omega
theorem first_ok (k : Nat) (hk : 5 ≤ k) : yardlaw5_first.f k = some true :=
  at_rounds (fun k => yardlaw5_first.mono k) hk (by decide +kernel)
theorem p2 (b : Nat) (hb : b ≤ 61) : 1 ≤ (2 : Int) ^ b ∧ (2 : Int) ^ b ≤ 2305843009213693952 := by
  have hN : (2 : Nat) ^ b ≤ 2 ^ 61 := Nat.pow_le_pow_right (by decide) hb
  have hP : 1 ≤ (2 : Nat) ^ b := Nat.one_le_two_pow
  have e : (2 : Int) ^ b = ((2 ^ b : Nat) : Int) := by simp
  rw [e]
  generalize (2 : Nat) ^ b = m at hN hP
  omega
/-- A shift of 1 by a count within 61. -/
theorem shl1 (n : Int) (h0 : 0 ≤ n) (h1 : n ≤ 61) : shl .i64 1 n = 2 ^ n.toNat ∧ 1 ≤ shl .i64 1 n ∧ shl .i64 1 n ≤ 2305843009213693952 := by
  have hp := p2 n.toNat (by omega)
  have e : shl .i64 1 n = 2 ^ n.toNat := by
    unfold shl
    have : min n.toNat IntKind.i64.bits = n.toNat := by simp [IntKind.bits]; omega
    rw [this, Int.one_mul, i64_w', w64 (by omega) (by omega)]
  rw [e]; exact ⟨rfl, hp.1, hp.2⟩
/-- What Clip answers. -/
def clipV (n h : Int) : Int × Bool := if n > h then (h, true) else if n < -h - 1 then (-h - 1, true) else (n, false)
theorem clip_bad (k : Nat) (n b : Int) (h : b < 1 ∨ 62 < b) : scale_Clip.f (k + 1) n b = some (0, true) := by
  unfold scale_Clip.f
  by_cases c : b < 1
  · rw [if_pos c]; simp only [scale_Clip.j0, if_true]
  · have : decide (b > 62) = true := decide_eq_true (by omega)
    rw [if_neg c, this]; simp only [scale_Clip.j0, if_true]
theorem clip_good (k : Nat) (n b : Int) (h0 : 1 ≤ b) (h1 : b ≤ 62) : scale_Clip.f (k + 1) n b = some (clipV n (shl .i64 1 (b - 1) - 1)) := by
  obtain ⟨_, l, u⟩ := shl1 (b - 1) (by omega) (by omega)
  have e1 : wrap64 (b - 1) = b - 1 := w64 (by omega) (by omega)
  have e2 : wrap64 (shl .i64 1 (b - 1) - 1) = shl .i64 1 (b - 1) - 1 := w64 (by omega) (by omega)
  have e3 : wrap64 (-(shl .i64 1 (b - 1) - 1)) = -(shl .i64 1 (b - 1) - 1) := w64 (by omega) (by omega)
  have e4 : wrap64 (-(shl .i64 1 (b - 1) - 1) - 1) = -(shl .i64 1 (b - 1) - 1) - 1 := w64 (by omega) (by omega)
  have d : decide (b > 62) = false := decide_eq_false (by omega)
  unfold scale_Clip.f
  rw [if_neg (by omega), d]
  simp only [scale_Clip.j0]
  rw [if_neg (by decide), e1, e2, e3, e4, if_pos (by omega)]
  unfold clipV
  split
  · rfl
  · split <;> rfl
theorem shl31 : shl .i64 1 (32 - 1) - 1 = 2147483647 := by decide +kernel
theorem clip32 (k : Nat) (n : Int) : scale_Clip.f (k + 1) n 32 = some (clipV n 2147483647) := by
  rw [clip_good k n 32 (by decide) (by decide), shl31]
/-- The nearest whole number, halves away from 0. -/
def rnd (n d : Int) : Int := if n < 0 then -((2 * -n + d) / (2 * d)) else (2 * n + d) / (2 * d)
theorem rnd_pos (n d : Int) (hd : 1 ≤ d) (hn : 0 ≤ n) : 2 * (d * rnd n d) ≤ 2 * n + d ∧ 2 * n < 2 * (d * rnd n d) + d ∧ 0 ≤ rnd n d := by
  unfold rnd
  rw [if_neg (by omega)]
  have a := Int.mul_ediv_self_le (x := 2 * n + d) (k := 2 * d) (by omega)
  have b := Int.lt_mul_ediv_self_add (x := 2 * n + d) (k := 2 * d) (by omega)
  have c := Int.ediv_nonneg (a := 2 * n + d) (b := 2 * d) (by omega) (by omega)
  rw [Int.mul_assoc] at a b
  exact ⟨by omega, by omega, c⟩
theorem rnd_neg (n d : Int) (hd : 1 ≤ d) : rnd (-n) d = -rnd n d := by
  unfold rnd
  by_cases h : n < 0
  · rw [if_pos h, if_neg (by omega), Int.neg_neg]
  · by_cases h0 : n = 0
    · subst h0
      simp only [Int.neg_zero]
      rw [if_neg (by omega), Int.ediv_eq_zero_of_lt (by omega) (by omega)]
      rfl
    · rw [if_neg h, if_pos (by omega), Int.neg_neg]
/-- A value times the divisor is within half a divisor of the number. -/
theorem rnd_near (n d : Int) (hd : 1 ≤ d) : 2 * (d * rnd n d) ≤ 2 * n + d ∧ 2 * n ≤ 2 * (d * rnd n d) + d := by
  by_cases h : 0 ≤ n
  · have := rnd_pos n d hd h; omega
  · have := rnd_pos (-n) d hd (by omega)
    rw [rnd_neg n d hd, Int.mul_neg] at this
    omega
theorem rnd_abs (n d m : Int) (hd : 1 ≤ d) (h : -m ≤ n ∧ n ≤ m) : -m ≤ rnd n d ∧ rnd n d ≤ m := by
  have key : ∀ n : Int, 0 ≤ n → n ≤ m → 0 ≤ rnd n d ∧ rnd n d ≤ m := by
    intro n h0 h1
    have := rnd_pos n d hd h0
    refine ⟨this.2.2, ?_⟩
    by_cases e : n = 0
    · subst e
      have z : rnd 0 d = 0 := by unfold rnd; rw [if_neg (by omega), Int.ediv_eq_zero_of_lt (by omega) (by omega)]
      omega
    · have g : rnd n d < n + 1 := by
        unfold rnd
        rw [if_neg (by omega)]
        apply Int.ediv_lt_of_lt_mul (by omega)
        have e1 : n * 1 ≤ n * d := Int.mul_le_mul_of_nonneg_left hd (by omega)
        have e2 : (n + 1) * (2 * d) = 2 * (n * d) + 2 * d := by rw [Int.add_mul, Int.one_mul, Int.mul_left_comm]
        omega
      omega
  by_cases h0 : 0 ≤ n
  · have := key n h0 h.2; omega
  · have := key (-n) (by omega) (by omega)
    rw [rnd_neg n d hd] at this; omega
theorem round_ok (k : Nat) (n d : Int) (hd : 1 ≤ d) (hd1 : d ≤ 1000) (hn : -4611686018427387 * 999 ≤ n ∧ n ≤ 4611686018427387 * 999) : scale_round.f (k + 2) n d = some (rnd n d) := by
  have key : ∀ k n, 0 ≤ n → n ≤ 4611686018427387 * 999 → scale_round.f (k + 1) n d = some (rnd n d) := by
    intro k n h0 h1
    simp only [scale_round.f]
    have e1 : wrap64 (2 * d) = 2 * d := w64 (by omega) (by omega)
    have e2 : wrap64 (2 * n) = 2 * n := w64 (by omega) (by omega)
    have e3 : wrap64 (2 * n + d) = 2 * n + d := w64 (by omega) (by omega)
    rw [if_neg (by omega), e1, e2, e3, if_neg (by omega), Int.tdiv_eq_ediv_of_nonneg (by omega)]
    have r := rnd_abs n d n hd (by omega)
    have q : (2 * n + d) / (2 * d) = rnd n d := by unfold rnd; rw [if_neg (by omega)]
    rw [q, w64 (by omega) (by omega)]
  by_cases h0 : 0 ≤ n
  · exact key (k + 1) n h0 hn.2
  · rw [scale_round.f, if_pos (by omega), w64 (by omega) (by omega), key k (-n) (by omega) (by omega)]
    simp only [Option.bind_some]
    have r := rnd_abs n d (-n) hd (by omega)
    rw [rnd_neg n d hd, Int.neg_neg, w64 (by omega) (by omega)]
theorem mul_abs (a b m : Int) (hb : -1000 ≤ b ∧ b ≤ 1000) (ha : -m ≤ a ∧ a ≤ m) : -(1000 * m) ≤ a * b ∧ a * b ≤ 1000 * m := by
  have key : ∀ a b : Int, 0 ≤ a → 0 ≤ b → a ≤ m → b ≤ 1000 → 0 ≤ a * b ∧ a * b ≤ 1000 * m := by
    intro a b h0 h1 h2 h3
    have e1 : a * b ≤ a * 1000 := Int.mul_le_mul_of_nonneg_left h3 h0
    exact ⟨Int.mul_nonneg h0 h1, by omega⟩
  by_cases h0 : 0 ≤ a
  · by_cases h1 : 0 ≤ b
    · have := key a b h0 h1 ha.2 hb.2; omega
    · have := key a (-b) h0 (by omega) ha.2 (by omega); rw [Int.mul_neg] at this; omega
  · by_cases h1 : 0 ≤ b
    · have := key (-a) b (by omega) h1 (by omega) hb.2; rw [Int.neg_mul] at this; omega
    · have := key (-a) (-b) (by omega) (by omega) (by omega) (by omega); rw [Int.neg_mul_neg] at this; omega
theorem may_ok (k p pl cl dead num den off : Int) : scale_May.f k p pl cl dead num den off = some (decide (-1000 ≤ num ∧ num ≤ 1000 ∧ 1 ≤ den ∧ den ≤ 1000 ∧ -1000000 ≤ off ∧ off ≤ 1000000 ∧ 0 ≤ dead ∧ dead ≤ 1000000)) := by
  unfold scale_May.f
  repeat' split
  all_goals (refine congrArg some ?_; first | (refine (decide_eq_false ?_).symm; omega) | skip)
  congr 1
  apply propext
  omega
def clampR (raw : Int) : Int := mn (mx raw (-2147483648)) 4294967295
theorem clampR_bd (raw : Int) : -4294967295 ≤ clampR raw ∧ clampR raw ≤ 4294967295 := by
  unfold clampR mn mx; split <;> split <;> omega
theorem clampR_id (raw : Int) (h0 : -2147483648 ≤ raw) (h1 : raw ≤ 4294967295) : clampR raw = raw := by
  unfold clampR mn mx; split <;> split <;> omega
theorem apply_ok (k : Nat) (a b c d dead num den off raw : Int) (h : -1000 ≤ num ∧ num ≤ 1000 ∧ 1 ≤ den ∧ den ≤ 1000 ∧ -1000000 ≤ off ∧ off ≤ 1000000 ∧ 0 ≤ dead ∧ dead ≤ 1000000) :
    scale_Apply.f (k + 2) a b c d dead num den off raw = some (clipV (rnd (clampR raw * num) den + off) 2147483647).1 := by
  have hc := clampR_bd raw
  have hm := mul_abs (clampR raw) num 4294967295 (by omega) hc
  have hr := rnd_abs (clampR raw * num) den (1000 * 4294967295) (by omega) (by omega)
  unfold scale_Apply.f
  rw [may_ok, decide_eq_true h]
  simp only [Option.bind_some, if_true]
  have e : wrap64 (mn (mx raw (-2147483648)) 4294967295 * num) = clampR raw * num := w64 (by unfold clampR at hm; omega) (by unfold clampR at hm; omega)
  rw [e, round_ok k _ _ (by omega) (by omega) (by omega)]
  simp only [Option.bind_some]
  rw [w64 (by omega) (by omega), clip32 (k + 1)]
  rfl
theorem apply_bad (k : Nat) (a b c d dead num den off raw : Int) (h : ¬ (-1000 ≤ num ∧ num ≤ 1000 ∧ 1 ≤ den ∧ den ≤ 1000 ∧ -1000000 ≤ off ∧ off ≤ 1000000 ∧ 0 ≤ dead ∧ dead ≤ 1000000)) :
    scale_Apply.f k a b c d dead num den off raw = some 0 := by
  unfold scale_Apply.f
  rw [may_ok, decide_eq_false h]
  rfl
theorem clip_id (n : Int) (h0 : -2147483648 ≤ n) (h1 : n ≤ 2147483647) : (clipV n 2147483647).1 = n := by
  unfold clipV; rw [if_neg (by omega), if_neg (by omega)]
theorem rnd_one (n : Int) : rnd n 1 = n := by
  have := rnd_near n 1 (by decide); omega
theorem rnd_mul (n d : Int) (hd : 1 ≤ d) : rnd (n * d) d = n := by
  have key : ∀ n : Int, 0 ≤ n → rnd (n * d) d = n := by
    intro n hn
    have := Int.mul_nonneg hn (show 0 ≤ d by omega)
    unfold rnd
    rw [if_neg (by omega)]
    have e : 2 * (n * d) + d = d + n * (2 * d) := by rw [Int.mul_left_comm n 2 d]; omega
    rw [e, Int.add_mul_ediv_right _ _ (by omega), Int.ediv_eq_zero_of_lt (by omega) (by omega), Int.zero_add]
  by_cases h : 0 ≤ n
  · exact key n h
  · have := key (-n) (by omega)
    rw [Int.neg_mul, rnd_neg _ _ hd] at this; omega
theorem rnd_zero (d : Int) (hd : 1 ≤ d) : rnd 0 d = 0 := by
  have := rnd_mul 0 d hd
  rwa [Int.zero_mul] at this

theorem rmay_ok (k p pl cl dead num den off : Int) : yardref2_MayScale.f k p pl cl dead num den off = some (decide (-1000 ≤ num ∧ num ≤ 1000 ∧ 1 ≤ den ∧ den ≤ 1000 ∧ -1000000 ≤ off ∧ off ≤ 1000000 ∧ 0 ≤ dead ∧ dead ≤ 1000000)) := by
  unfold yardref2_MayScale.f
  repeat' split
  all_goals (refine congrArg some ?_; first | (refine (decide_eq_false ?_).symm; omega) | skip)
  congr 1
  apply propext
  omega
theorem rclip32 (k : Nat) (n : Int) (h0 : -4611686018427387904 ≤ n) (h1 : n ≤ 4611686018427387904) : yardref2_Clip.f (k + 1) n 32 = some (clipV n 2147483647) := by
  have e1 : shl .i64 1 (IntKind.u64.wrap (wrap64 (32 - 1))) = 2147483648 := by decide +kernel
  have e2 : (0 : Int) ≤ IntKind.u64.wrap (wrap64 (32 - 1)) := by decide +kernel
  unfold yardref2_Clip.f
  rw [if_neg (by decide), show decide ((32 : Int) > 62) = false from rfl]
  simp only [yardref2_Clip.j0]
  rw [if_neg (by decide), if_pos e2, e1, show wrap64 (2147483648 - 1) = 2147483647 by decide +kernel, show wrap64 (-2147483648) = -2147483648 by decide +kernel]
  unfold clipV
  by_cases c : n ≥ 2147483648
  · rw [if_pos c, if_pos (show n > 2147483647 by omega)]
  · rw [if_neg c, if_neg (show ¬ n > 2147483647 by omega)]
    by_cases c' : n < -2147483648
    · rw [if_pos c', if_pos (show n < -2147483647 - 1 by omega)]
      rfl
    · rw [if_neg c', if_neg (show ¬ n < -2147483647 - 1 by omega)]
theorem half_up (x d : Int) (hd : 1 ≤ d) : (x + d / 2) / d = (2 * x + d) / (2 * d) := by
  have a := Int.mul_ediv_add_emod (x + d / 2) d
  have b := Int.emod_nonneg (x + d / 2) (show d ≠ 0 by omega)
  have c := Int.emod_lt_of_pos (x + d / 2) (show 0 < d by omega)
  generalize (x + d / 2) / d = q at *
  have e : 2 * x + d = (2 * x + d - 2 * (d * q)) + q * (2 * d) := by rw [show q * (2 * d) = 2 * (d * q) by rw [Int.mul_comm q, Int.mul_assoc]]; omega
  rw [e, Int.add_mul_ediv_right _ _ (by omega), Int.ediv_eq_zero_of_lt (by omega) (by omega), Int.zero_add]
theorem rapply_ok (k : Nat) (a b c d dead num den off raw : Int) (h : -1000 ≤ num ∧ num ≤ 1000 ∧ 1 ≤ den ∧ den ≤ 1000 ∧ -1000000 ≤ off ∧ off ≤ 1000000 ∧ 0 ≤ dead ∧ dead ≤ 1000000) :
    yardref2_Apply.f (k + 2) a b c d dead num den off raw = some (clipV (rnd (clampR raw * num) den + off) 2147483647).1 := by
  have hc := clampR_bd raw
  have hm := mul_abs (clampR raw) num 4294967295 (by omega) hc
  have hr := rnd_abs (clampR raw * num) den (1000 * 4294967295) (by omega) (by omega)
  unfold yardref2_Apply.f
  rw [rmay_ok, decide_eq_true h]
  simp only [Option.bind_some, if_true]
  have e : wrap64 (mn (mx raw (-2147483648)) 4294967295 * num) = clampR raw * num := w64 (by unfold clampR at hm; omega) (by unfold clampR at hm; omega)
  rw [e]
  have e2 : wrap64 (Int.tdiv den 2) = den / 2 := by rw [Int.tdiv_eq_ediv_of_nonneg (by omega), w64 (by omega) (by omega)]
  rw [e2]
  generalize clampR raw * num = x at *
  by_cases hx : x < 0
  · rw [if_pos hx, if_neg (by omega), w64 (x := x - den / 2) (by omega) (by omega)]
    have e3 : Int.tdiv (x - den / 2) den = rnd x den := by
      rw [show x - den / 2 = -(-x + den / 2) by omega, Int.neg_tdiv, Int.tdiv_eq_ediv_of_nonneg (by omega), half_up (-x) den (by omega)]
      unfold rnd
      rw [if_pos hx]
    rw [e3, w64 (x := rnd x den) (by omega) (by omega), w64 (x := rnd x den + off) (by omega) (by omega), rclip32 (k + 1) _ (by omega) (by omega)]
    rfl
  · rw [if_neg hx, if_neg (by omega), w64 (x := x + den / 2) (by omega) (by omega)]
    have e3 : Int.tdiv (x + den / 2) den = rnd x den := by
      rw [Int.tdiv_eq_ediv_of_nonneg (by omega), half_up x den (by omega)]
      unfold rnd
      rw [if_neg hx]
    rw [e3, w64 (x := rnd x den) (by omega) (by omega), w64 (x := rnd x den + off) (by omega) (by omega), rclip32 (k + 1) _ (by omega) (by omega)]
    rfl
theorem rapply_bad (k : Nat) (a b c d dead num den off raw : Int) (h : ¬ (-1000 ≤ num ∧ num ≤ 1000 ∧ 1 ≤ den ∧ den ≤ 1000 ∧ -1000000 ≤ off ∧ off ≤ 1000000 ∧ 0 ≤ dead ∧ dead ≤ 1000000)) :
    yardref2_Apply.f k a b c d dead num den off raw = some 0 := by
  unfold yardref2_Apply.f
  rw [rmay_ok, decide_eq_false h]
  rfl
theorem and_low (n : Int) : bits .and .i64 n 65535 = n % 65536 := by
  have h127 : (BitVec.ofInt 64 65535).toNat = 2 ^ 16 - 1 := by decide
  have key : (BitVec.ofInt 64 n &&& BitVec.ofInt 64 65535).toNat = (n % ((2 ^ 64 : Nat) : Int)).toNat % 2 ^ 16 := by
    rw [BitVec.toNat_and, BitVec.toNat_ofInt, h127, Nat.and_two_pow_sub_one_eq_mod]
  show IntKind.i64.wrap ((BitVec.ofInt 64 n &&& BitVec.ofInt 64 65535).toNat : Nat) = n % 65536
  rw [key, i64_w']
  unfold wrap64
  omega
theorem signed_same (a : Int) : scale_Signed.f a = yardref2_Signed.f a := by
  unfold scale_Signed.f yardref2_Signed.f
  rw [and_low, u16_w, i16_w]
  by_cases c : a % 65536 ≥ 32768
  · rw [if_pos c, w64 (x := a % 65536 - 65536) (by omega) (by omega), w64 (by omega) (by omega)]
    congr 1; omega
  · rw [if_neg c, w64 (by omega) (by omega)]
    congr 1; omega
theorem ScaleApplies (p q pl cl dead num den off raw : Int) : yardlaw5_ScaleApplies.f 20 p q pl cl dead num den off raw = some true := by
  unfold yardlaw5_ScaleApplies.f
  have hs : ∃ s, scale_Signed.f raw = some s := ⟨_, rfl⟩
  obtain ⟨s, hs⟩ := hs
  have hs' := hs
  rw [signed_same] at hs'
  rw [first_ok 20 (by decide), may_ok, rmay_ok, hs, hs']
  simp only [Option.bind_some, if_true, beq_self_eq_true]
  by_cases h : -1000 ≤ num ∧ num ≤ 1000 ∧ 1 ≤ den ∧ den ≤ 1000 ∧ -1000000 ≤ off ∧ off ≤ 1000000 ∧ 0 ≤ dead ∧ dead ≤ 1000000
  · rw [apply_ok 18 _ _ _ _ _ _ _ _ _ h, rapply_ok 18 _ _ _ _ _ _ _ _ _ h]
    simp only [Option.bind_some, if_true]
  · rw [apply_bad _ _ _ _ _ _ _ _ _ _ h, rapply_bad _ _ _ _ _ _ _ _ _ _ h]
    simp only [Option.bind_some, if_true]

end Go.Proofs.Ytainifflpbkiiaa.Pure
