/- The law: Apply goes one way. -/
import Derived.Test.YtainifflpbkiiaaPScaleRisesx2
namespace Go.Proofs.Ytainifflpbkiiaa.Pure
open Go.RowKit Go.Proofs.Ytainifflpbkiiaa.PScaleRises Go.Proofs.YtainifflpbkiiaaW.PrintWords Go.Proofs.YtainifflpbkiiaaW.PrintLast Go.Proofs.YtainifflpbkiiaaW.PrintMore

theorem wf_range {a : Int} (h : (Lit.int .i64 a).wf = true) : -9223372036854775808 ≤ a ∧ a ≤ 9223372036854775807 := by
  simp [Lit.wf, IntKind.min, IntKind.max, IntKind.bits, IntKind.signed] at h
  omega
theorem w64 {x : Int} (h0 : -9223372036854775808 ≤ x) (h1 : x ≤ 9223372036854775807) : wrap64 x = x := by
  unfold wrap64; omega
theorem u64_w (x : Int) : IntKind.u64.wrap x = x % 18446744073709551616 := by simp [IntKind.wrap, IntKind.bits, IntKind.signed]
theorem u16_w (x : Int) : IntKind.u16.wrap x = x % 65536 := by simp [IntKind.wrap, IntKind.bits, IntKind.signed]
theorem i16_w (x : Int) : IntKind.i16.wrap x = (x + 32768) % 65536 - 32768 := by
  simp [IntKind.wrap, IntKind.bits, IntKind.signed]
  split <;> omega
theorem i64_w' (x : Int) : IntKind.i64.wrap x = wrap64 x := by
  simp [IntKind.wrap, IntKind.bits, IntKind.signed, wrap64]
  split <;> omega
theorem first_ok (k : Nat) (hk : 5 ≤ k) : yardlaw5_first.f k = some true :=
  at_rounds (fun k => yardlaw5_first.mono k) hk (by decide +kernel)
theorem p2 (b : Nat) (hb : b ≤ 61) : 1 ≤ (2 : Int) ^ b ∧ (2 : Int) ^ b ≤ 2305843009213693952 := by
  have hN : (2 : Nat) ^ b ≤ 2 ^ 61 := Nat.pow_le_pow_right (by decide) hb
  have hP : 1 ≤ (2 : Nat) ^ b := Nat.one_le_two_pow
  have e : (2 : Int) ^ b = ((2 ^ b : Nat) : Int) := by simp
  rw [e]
  generalize (2 : Nat) ^ b = m at hN hP
  omega
/-- A shift of 1 by a count within 61. -/
theorem shl1 (n : Int) (h0 : 0 ≤ n) (h1 : n ≤ 61) : shl .i64 1 n = 2 ^ n.toNat ∧ 1 ≤ shl .i64 1 n ∧ shl .i64 1 n ≤ 2305843009213693952 := by
  have hp := p2 n.toNat (by omega)
  have e : shl .i64 1 n = 2 ^ n.toNat := by
    unfold shl
    have : min n.toNat IntKind.i64.bits = n.toNat := by simp [IntKind.bits]; omega
    rw [this, Int.one_mul, i64_w', w64 (by omega) (by omega)]
  rw [e]; exact ⟨rfl, hp.1, hp.2⟩
/-- What Clip answers. -/
def clipV (n h : Int) : Int × Bool := if n > h then (h, true) else if n < -h - 1 then (-h - 1, true) else (n, false)
theorem clip_bad (k : Nat) (n b : Int) (h : b < 1 ∨ 62 < b) : scale_Clip.f (k + 1) n b = some (0, true) := by
  unfold scale_Clip.f
  by_cases c : b < 1
  · rw [if_pos c]; simp only [scale_Clip.j0, if_true]
  · have : decide (b > 62) = true := decide_eq_true (by omega)
    rw [if_neg c, this]; simp only [scale_Clip.j0, if_true]
theorem clip_good (k : Nat) (n b : Int) (h0 : 1 ≤ b) (h1 : b ≤ 62) : scale_Clip.f (k + 1) n b = some (clipV n (shl .i64 1 (b - 1) - 1)) := by
  obtain ⟨_, l, u⟩ := shl1 (b - 1) (by omega) (by omega)
  have e1 : wrap64 (b - 1) = b - 1 := w64 (by omega) (by omega)
  have e2 : wrap64 (shl .i64 1 (b - 1) - 1) = shl .i64 1 (b - 1) - 1 := w64 (by omega) (by omega)
  have e3 : wrap64 (-(shl .i64 1 (b - 1) - 1)) = -(shl .i64 1 (b - 1) - 1) := w64 (by omega) (by omega)
  have e4 : wrap64 (-(shl .i64 1 (b - 1) - 1) - 1) = -(shl .i64 1 (b - 1) - 1) - 1 := w64 (by omega) (by omega)
  have d : decide (b > 62) = false := decide_eq_false (by omega)
  unfold scale_Clip.f
  rw [if_neg (by omega), d]
  simp only [scale_Clip.j0]
  rw [if_neg (by decide), e1, e2, e3, e4, if_pos (by omega)]
  unfold clipV
  split
  · rfl
  · split <;> rfl
theorem shl31 : shl .i64 1 (32 - 1) - 1 = 2147483647 := by decide +kernel
theorem clip32 (k : Nat) (n : Int) : scale_Clip.f (k + 1) n 32 = some (clipV n 2147483647) := by
  rw [clip_good k n 32 (by decide) (by decide), shl31]
/-- The nearest whole number, halves away from 0. -/
def rnd (n d : Int) : Int := if n < 0 then -((2 * -n + d) / (2 * d)) else (2 * n + d) / (2 * d)
theorem rnd_pos (n d : Int) (hd : 1 ≤ d) (hn : 0 ≤ n) : 2 * (d * rnd n d) ≤ 2 * n + d ∧ 2 * n < 2 * (d * rnd n d) + d ∧ 0 ≤ rnd n d := by
  unfold rnd
  rw [if_neg (by omega)]
  have a := Int.mul_ediv_self_le (x := 2 * n + d) (k := 2 * d) (by omega)
  have b := Int.lt_mul_ediv_self_add (x := 2 * n + d) (k := 2 * d) (by omega)
  have c := Int.ediv_nonneg (a := 2 * n + d) (b := 2 * d) (by omega) (by omega)
  rw [Int.mul_assoc] at a b
  exact ⟨by omega, by omega, c⟩
theorem rnd_neg (n d : Int) (hd : 1 ≤ d) : rnd (-n) d = -rnd n d := by
  unfold rnd
  by_cases h : n < 0
  · rw [if_pos h, if_neg (by omega), Int.neg_neg]
  · by_cases h0 : n = 0
    · subst h0
      simp only [Int.neg_zero]
      rw [if_neg (by omega), Int.ediv_eq_zero_of_lt (by omega) (by omega)]
      rfl
    · rw [if_neg h, if_pos (by omega), Int.neg_neg]
/-- A value times the divisor is within half a divisor of the number. -/
theorem rnd_near (n d : Int) (hd : 1 ≤ d) : 2 * (d * rnd n d) ≤ 2 * n + d ∧ 2 * n ≤ 2 * (d * rnd n d) + d := by
  by_cases h : 0 ≤ n
  · have := rnd_pos n d hd h; omega
  · have := rnd_pos (-n) d hd (by omega)
    rw [rnd_neg n d hd, Int.mul_neg] at this
    omega
theorem rnd_abs (n d m : Int) (hd : 1 ≤ d) (h : -m ≤ n ∧ n ≤ m) : -m ≤ rnd n d ∧ rnd n d ≤ m := by
  have key : ∀ n : Int, 0 ≤ n → n ≤ m → 0 ≤ rnd n d ∧ rnd n d ≤ m := by
    intro n h0 h1
    have := rnd_pos n d hd h0
    refine ⟨this.2.2, ?_⟩
    by_cases e : n = 0
    · subst e
      have z : rnd 0 d = 0 := by unfold rnd; rw [if_neg (by omega), Int.ediv_eq_zero_of_lt (by omega) (by omega)]
      omega
    · have g : rnd n d < n + 1 := by
        unfold rnd
        rw [if_neg (by omega)]
        apply Int.ediv_lt_of_lt_mul (by omega)
        have e1 : n * 1 ≤ n * d := Int.mul_le_mul_of_nonneg_left hd (by omega)
        have e2 : (n + 1) * (2 * d) = 2 * (n * d) + 2 * d := by rw [Int.add_mul, Int.one_mul, Int.mul_left_comm]
        omega
      omega
  by_cases h0 : 0 ≤ n
  · have := key n h0 h.2; omega
  · have := key (-n) (by omega) (by omega)
    rw [rnd_neg n d hd] at this; omega
theorem round_ok (k : Nat) (n d : Int) (hd : 1 ≤ d) (hd1 : d ≤ 1000) (hn : -4611686018427387 * 999 ≤ n ∧ n ≤ 4611686018427387 * 999) : scale_round.f (k + 2) n d = some (rnd n d) := by
  have key : ∀ k n, 0 ≤ n → n ≤ 4611686018427387 * 999 → scale_round.f (k + 1) n d = some (rnd n d) := by
    intro k n h0 h1
    simp only [scale_round.f]
    have e1 : wrap64 (2 * d) = 2 * d := w64 (by omega) (by omega)
    have e2 : wrap64 (2 * n) = 2 * n := w64 (by omega) (by omega)
    have e3 : wrap64 (2 * n + d) = 2 * n + d := w64 (by omega) (by omega)
    rw [if_neg (by omega), e1, e2, e3, if_neg (by omega), Int.tdiv_eq_ediv_of_nonneg (by omega)]
    have r := rnd_abs n d n hd (by omega)
    have q : (2 * n + d) / (2 * d) = rnd n d := by unfold rnd; rw [if_neg (by omega)]
    rw [q, w64 (by omega) (by omega)]
  by_cases h0 : 0 ≤ n
  · exact key (k + 1) n h0 hn.2
  · rw [scale_round.f, if_pos (by omega), w64 (by omega) (by omega), key k (-n) (by omega) (by omega)]
    simp only [Option.bind_some]
    have r := rnd_abs n d (-n) hd (by omega)
    rw [rnd_neg n d hd, Int.neg_neg, w64 (by omega) (by omega)]
theorem mul_abs (a b m : Int) (hb : -1000 ≤ b ∧ b ≤ 1000) (ha : -m ≤ a ∧ a ≤ m) : -(1000 * m) ≤ a * b ∧ a * b ≤ 1000 * m := by
  have key : ∀ a b : Int, 0 ≤ a → 0 ≤ b → a ≤ m → b ≤ 1000 → 0 ≤ a * b ∧ a * b ≤ 1000 * m := by
    intro a b h0 h1 h2 h3
    have e1 : a * b ≤ a * 1000 := Int.mul_le_mul_of_nonneg_left h3 h0
    exact ⟨Int.mul_nonneg h0 h1, by omega⟩
  by_cases h0 : 0 ≤ a
  · by_cases h1 : 0 ≤ b
    · have := key a b h0 h1 ha.2 hb.2; omega
    · have := key a (-b) h0 (by omega) ha.2 (by omega); rw [Int.mul_neg] at this; omega
  · by_cases h1 : 0 ≤ b
    · have := key (-a) b (by omega) h1 (by omega) hb.2; rw [Int.neg_mul] at this; omega
    · have := key (-a) (-b) (by omega) (by omega) (by omega) (by omega); rw [Int.neg_mul_neg] at this; omega
theorem may_ok (k p pl cl dead num den off : Int) : scale_May.f k p pl cl dead num den off = some (decide (-1000 ≤ num ∧ num ≤ 1000 ∧ 1 ≤ den ∧ den ≤ 1000 ∧ -1000000 ≤ off ∧ off ≤ 1000000 ∧ 0 ≤ dead ∧ dead ≤ 1000000)) := by
  unfold scale_May.f
  repeat' split
  all_goals (refine congrArg some ?_; first | (refine (decide_eq_false ?_).symm; omega) | skip)
  congr 1
  apply propext
  omega
def clampR (raw : Int) : Int := mn (mx raw (-2147483648)) 4294967295
theorem clampR_bd (raw : Int) : -4294967295 ≤ clampR raw ∧ clampR raw ≤ 4294967295 := by
  unfold clampR mn mx; split <;> split <;> omega
theorem clampR_id (raw : Int) (h0 : -2147483648 ≤ raw) (h1 : raw ≤ 4294967295) : clampR raw = raw := by
  unfold clampR mn mx; split <;> split <;> omega
theorem apply_ok (k : Nat) (a b c d dead num den off raw : Int) (h : -1000 ≤ num ∧ num ≤ 1000 ∧ 1 ≤ den ∧ den ≤ 1000 ∧ -1000000 ≤ off ∧ off ≤ 1000000 ∧ 0 ≤ dead ∧ dead ≤ 1000000) :
    scale_Apply.f (k + 2) a b c d dead num den off raw = some (clipV (rnd (clampR raw * num) den + off) 2147483647).1 := by
  have hc := clampR_bd raw
  have hm := mul_abs (clampR raw) num 4294967295 (by omega) hc
  have hr := rnd_abs (clampR raw * num) den (1000 * 4294967295) (by omega) (by omega)
  unfold scale_Apply.f
  rw [may_ok, decide_eq_true h]
  simp only [Option.bind_some, if_true]
  have e : wrap64 (mn (mx raw (-2147483648)) 4294967295 * num) = clampR raw * num := w64 (by unfold clampR at hm; omega) (by unfold clampR at hm; omega)
  rw [e, round_ok k _ _ (by omega) (by omega) (by omega)]
  simp only [Option.bind_some]
  rw [w64 (by omega) (by omega), clip32 (k + 1)]
  rfl
theorem apply_bad (k : Nat) (a b c d dead num den off raw : Int) (h : ¬ (-1000 ≤ num ∧ num ≤ 1000 ∧ 1 ≤ den ∧ den ≤ 1000 ∧ -1000000 ≤ off ∧ off ≤ 1000000 ∧ 0 ≤ dead ∧ dead ≤ 1000000)) :
    scale_Apply.f k a b c d dead num den off raw = some 0 := by
  unfold scale_Apply.f
  rw [may_ok, decide_eq_false h]
  rfl
theorem clip_id (n : Int) (h0 : -2147483648 ≤ n) (h1 : n ≤ 2147483647) : (clipV n 2147483647).1 = n := by
  unfold clipV; rw [if_neg (by omega), if_neg (by omega)]
theorem rnd_one (n : Int) : rnd n 1 = n := by
  have := rnd_near n 1 (by decide); omega
theorem rnd_mul (n d : Int) (hd : 1 ≤ d) : rnd (n * d) d = n := by
  have key : ∀ n : Int, 0 ≤ n → rnd (n * d) d = n := by
    intro n hn
    have := Int.mul_nonneg hn (show 0 ≤ d by omega)
    unfold rnd
    rw [if_neg (by omega)]
    have e : 2 * (n * d) + d = d + n * (2 * d) := by rw [Int.mul_left_comm n 2 d]; omega
    rw [e, Int.add_mul_ediv_right _ _ (by omega), Int.ediv_eq_zero_of_lt (by omega) (by omega), Int.zero_add]
  by_cases h : 0 ≤ n
  · exact key n h
  · have := key (-n) (by omega)
    rw [Int.neg_mul, rnd_neg _ _ hd] at this; omega
theorem rnd_zero (d : Int) (hd : 1 ≤ d) : rnd 0 d = 0 := by
  have := rnd_mul 0 d hd
  rwa [Int.zero_mul] at this

theorem rnd_mono (n m d : Int) (hd : 1 ≤ d) (h : n ≤ m) : rnd n d ≤ rnd m d := by
  by_cases h0 : 0 ≤ n
  · unfold rnd
    rw [if_neg (by omega), if_neg (by omega)]
    exact Int.ediv_le_ediv (by omega) (by omega)
  · by_cases h1 : 0 ≤ m
    · have a := (rnd_pos m d hd h1).2.2
      have b := (rnd_pos (-n) d hd (by omega)).2.2
      rw [rnd_neg n d hd] at b
      omega
    · unfold rnd
      rw [if_pos (by omega), if_pos (by omega)]
      have := Int.ediv_le_ediv (a := 2 * -m + d) (b := 2 * -n + d) (c := 2 * d) (by omega) (by omega)
      omega
theorem clampR_mono (a b : Int) (h : a ≤ b) : clampR a ≤ clampR b := by
  unfold clampR mn mx; (repeat' split) <;> omega
theorem clipV_mono (a b : Int) (h : a ≤ b) : (clipV a 2147483647).1 ≤ (clipV b 2147483647).1 := by
  unfold clipV; (repeat' split) <;> dsimp only <;> omega
theorem clipV_bd (a : Int) : -2147483648 ≤ (clipV a 2147483647).1 ∧ (clipV a 2147483647).1 < 2147483648 := by
  unfold clipV; split
  · exact ⟨by dsimp only; omega, by dsimp only; omega⟩
  · split
    · exact ⟨by dsimp only; omega, by dsimp only; omega⟩
    · exact ⟨by dsimp only; omega, by dsimp only; omega⟩
theorem rises_j0 (x1 x7 : Int) (h : -2147483648 ≤ x7 ∧ x7 < 2147483648) : yardlaw5_ScaleRises.j0 20 x1 x7 false = some true := by
  show yardlaw5_ScaleRises.j0 (19 + 1) x1 x7 false = some true
  rw [yardlaw5_ScaleRises.j0]
  have e : mx (mn x1 4294967295) (-2147483648) = clampR x1 := by
    unfold clampR mn mx; (repeat' split) <;> omega
  rw [if_neg (by decide), e, clip32 18, first_ok 19 (by decide)]
  simp only [Option.bind_some, if_true, yardlaw5_p.f]
  rw [apply_ok 17 _ _ _ _ _ _ _ _ _ ⟨by decide, by decide, by decide, by decide, by decide, by decide, by decide, by decide⟩]
  simp only [Option.bind_some]
  rw [Int.mul_one, rnd_one, Int.add_zero, if_pos rfl, if_pos h.1, decide_eq_true h.2]
theorem ScaleRises (p q pl cl dead num den off a b : Int) : yardlaw5_ScaleRises.f 20 p q pl cl dead num den off a b = some true := by
  unfold yardlaw5_ScaleRises.f
  rw [first_ok 20 (by decide), may_ok]
  simp only [Option.bind_some, if_true]
  by_cases h : -1000 ≤ num ∧ num ≤ 1000 ∧ 1 ≤ den ∧ den ≤ 1000 ∧ -1000000 ≤ off ∧ off ≤ 1000000 ∧ 0 ≤ dead ∧ dead ≤ 1000000
  · rw [decide_eq_true h, if_pos rfl, apply_ok 18 _ _ _ _ _ _ _ _ (mn a b) h, apply_ok 18 _ _ _ _ _ _ _ _ (mx a b) h]
    simp only [Option.bind_some]
    have hc := clampR_mono (mn a b) (mx a b) (by unfold mn mx; split <;> split <;> omega)
    have hu := clipV_bd (rnd (clampR (mn a b) * num) den + off)
    have h1 : 0 ≤ num → (clipV (rnd (clampR (mn a b) * num) den + off) 2147483647).1 ≤ (clipV (rnd (clampR (mx a b) * num) den + off) 2147483647).1 := fun hn =>
      clipV_mono _ _ (by have := rnd_mono _ _ den (by omega) (Int.mul_le_mul_of_nonneg_right hc hn); omega)
    have h2 : num ≤ 0 → (clipV (rnd (clampR (mx a b) * num) den + off) 2147483647).1 ≤ (clipV (rnd (clampR (mn a b) * num) den + off) 2147483647).1 := fun hn =>
      clipV_mono _ _ (by have := rnd_mono _ _ den (by omega) (Int.mul_le_mul_of_nonpos_right hc hn); omega)
    generalize (clipV (rnd (clampR (mn a b) * num) den + off) 2147483647).1 = u at *
    generalize (clipV (rnd (clampR (mx a b) * num) den + off) 2147483647).1 = v at *
    have key := rises_j0 a u hu
    by_cases c1 : num > 0
    · have := h1 (by omega)
      rw [if_pos c1, if_neg (by omega), if_neg (by omega), if_neg (by omega)]
      exact key
    · rw [if_neg c1]
      by_cases c2 : num < 0
      · have := h2 (by omega)
        rw [if_pos c2, if_neg (by omega), if_neg (by omega)]
        exact key
      · have e1 := h1 (by omega)
        have e2 := h2 (by omega)
        obtain rfl : u = v := by omega
        rw [if_neg c2, if_pos (by omega), bne_self_eq_false]
        exact key
  · rw [decide_eq_false h, if_neg (by decide), apply_bad _ _ _ _ _ _ _ _ _ _ h]
    rfl

end Go.Proofs.Ytainifflpbkiiaa.Pure
